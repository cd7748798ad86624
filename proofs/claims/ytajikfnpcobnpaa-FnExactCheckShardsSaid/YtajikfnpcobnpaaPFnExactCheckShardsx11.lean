-- Laid by a program of this session.
import Derived.Test.YtajikfnpcobnpaaPFnExactCheckShardsx0
import Derived.Test.YtajikfnpcobnpaaPFnExactCheckShardsx1
import Derived.Test.YtajikfnpcobnpaaPFnExactCheckShardsx10
namespace Go.Proofs.Ytajikfnpcobnpaa.PFnExactCheckShards
open Go.RowKit Go.Proofs.YtajikfnpcobnpaaW.PrintWords Go.Proofs.YtajikfnpcobnpaaW.PrintLast Go.Proofs.YtajikfnpcobnpaaW.PrintMore
attribute [local go_sem] max2_int min2_int max_two min_two max_three min_three max_four min_four   -- for this text's walks alone
set_option linter.unusedVariables false
set_option maxHeartbeats 8000000
set_option maxRecDepth 100000
set_option linter.unusedSimpArgs false

theorem fl_info5:(Try.prog.info? 5).map (fun i=>(i.zero,i.size,i.bytes))=some (some (.int .u8 0),1,1):=by kernel_rfl
theorem fl_info32:(Try.prog.info? 57).map (fun i=>(i.zero,i.size,i.bytes))=some (some (.slice none 0 0),1,24):=by kernel_rfl

mutual
def impl_filled.l0 (E:Nat→Int→Int→Option Int):Nat→Int→List (List Int)→Int→Int→Option ((List (List Int)))
 | 0,_,_,_,_=>none
 | k+1,x1,x7,x12,x13=>if x13 < x12 then (impl_filled.l1 E k x1 x7 x13 (([]:List Int)) x12 x13 x1 0) else (some x7)
def impl_filled.l1 (E:Nat→Int→Int→Option Int):Nat→Int→List (List Int)→Int→List Int→Int→Int→Int→Int→Option ((List (List Int)))
 | 0,_,_,_,_,_,_,_,_=>none
 | k+1,x1,x7,x8,x9,x12,x13,x17,x18=>if x18 < x17 then ((E k x8 x18).bind fun t149=>(if x9.length < 140737488355328 then (impl_filled.l1 E k x1 x7 x8 (x9 ++ [t149]) x12 x13 x17 (wrap64 (x18+1))) else (none))) else (if x7.length < 5864062014805 then (impl_filled.l0 E k x1 (x7 ++ [x9]) x12 (wrap64 (x13+1))) else (none))
end
def impl_filled.f (E:Nat→Int→Int→Option Int) (k:Nat) (a0:Int) (a1:Int):Option ((List (List Int))):=impl_filled.l0 E k a1 (([]:List (List Int))) a0 0
theorem impl_filled.mono_l (E:Nat→Int→Int→Option Int) (hE:∀ i j k,LeO (E k i j) (E (k+1) i j)):∀ k,(∀ y0 y1 y2 y3,LeO (impl_filled.l0 E k y0 y1 y2 y3) (impl_filled.l0 E (k+1) y0 y1 y2 y3))∧(∀ y0 y1 y2 y3 y4 y5 y6 y7,LeO (impl_filled.l1 E k y0 y1 y2 y3 y4 y5 y6 y7) (impl_filled.l1 E (k+1) y0 y1 y2 y3 y4 y5 y6 y7))
 | 0=>⟨fun _ _ _ _ r h=>by simp [impl_filled.l0] at h,fun _ _ _ _ _ _ _ _ r h=>by simp [impl_filled.l1] at h⟩
 | k+1=>by
  obtain ⟨ih0,ih1⟩:=impl_filled.mono_l E hE k
  refine ⟨?_,?_⟩
  ·intro y0 y1 y2 y3
   unfold impl_filled.l0
   repeat' first
   | (with_reducible exact ih0 _ _ _ _)
   | (with_reducible exact ih1 _ _ _ _ _ _ _ _)
   | (with_reducible exact hE _ _ _)
   |(with_reducible exact LeO.refl _)|(with_reducible exact LeO.none _)|(with_reducible refine LeO.ite ?_ ?_)|(with_reducible refine LeO.bind ?_ (fun _=>?_))|exact ih0 _ _ _ _|exact ih1 _ _ _ _ _ _ _ _|exact hE _ _ _|exact LeO.none _|refine LeO.ite ?_ ?_|refine LeO.bind ?_ (fun _=>?_)
  intro y0 y1 y2 y3 y4 y5 y6 y7
  unfold impl_filled.l1
  repeat' first
  | (with_reducible exact ih0 _ _ _ _)
  | (with_reducible exact ih1 _ _ _ _ _ _ _ _)
  | (with_reducible exact hE _ _ _)
  |(with_reducible exact LeO.refl _)|(with_reducible exact LeO.none _)|(with_reducible refine LeO.ite ?_ ?_)|(with_reducible refine LeO.bind ?_ (fun _=>?_))|exact ih0 _ _ _ _|exact ih1 _ _ _ _ _ _ _ _|exact hE _ _ _|exact LeO.none _|refine LeO.ite ?_ ?_|refine LeO.bind ?_ (fun _=>?_)
theorem impl_filled.mono (E:Nat→Int→Int→Option Int) (hE:∀ i j k,LeO (E k i j) (E (k+1) i j)):∀ a0 a1 k,LeO (impl_filled.f E k a0 a1) (impl_filled.f E (k+1) a0 a1):=by
 intro a0 a1 k
 obtain ⟨ih0,ih1⟩:=impl_filled.mono_l E hE k
 unfold impl_filled.f
 repeat' first
   | (with_reducible exact ih0 _ _ _ _)
   | (with_reducible exact ih1 _ _ _ _ _ _ _ _)
   | (with_reducible exact hE _ _ _)
   |(with_reducible exact LeO.refl _)|(with_reducible exact LeO.none _)|(with_reducible refine LeO.ite ?_ ?_)|(with_reducible refine LeO.bind ?_ (fun _=>?_))|exact ih0 _ _ _ _|exact ih1 _ _ _ _ _ _ _ _|exact hE _ _ _|exact LeO.none _|refine LeO.ite ?_ ?_|refine LeO.bind ?_ (fun _=>?_)
theorem impl_filled.calls (E:Nat→Int→Int→Option Int) (g:Nat) (eg:∀ args w,(callFunc g args).run Try.prog w = .ok (.enter g args) w) (lb:Array Value) (k:Nat) (a0:Int) (a1:Int) (r:List (List Int)) (w:World)
  (hE:∀ k i j t W,Below w.heap.size w W→E k i j=some t→Calls Try.prog g (#[.int .i64 i, .int .i64 j] ++ lb) W fun e w'=>e = .returned (.int .u8 t)∧Drawn0 W w') (h:impl_filled.f E k a0 a1=some r) :
  Calls Try.prog 178 #[.int .i64 a0, .int .i64 a1, .func (.func g) #[] lb] w fun e w'=>∃ v0_:Value,e = .returned (v0_)∧Kd.S (Kd.slice 5 (Kd.int .u8)) 57 w' w.heap.size (fun _=>True) v0_ r∧Below w.heap.size w w':=by
 have HX:=am hE
 clear hE
 have HB:=am (Below.refl w.heap.size w)
 have H:(impl_filled.l0 E k a1 (([]:List (List Int))) a0 0)=some r:=h
 clear h
 obtain ⟨y143,hy143⟩:∃ y_:List (List Int),y_=(([]:List (List Int))):=⟨_,rfl⟩
 replace H:(impl_filled.l0 E k a1 y143 a0 0)=some r:=by first|(rw [hy143];with_reducible exact H)|(have H2_:=(Option.bind_some _ _).symm.trans H;rw [hy143];with_reducible exact H2_)|(have H2_:=(Option.bind_some _ _).symm.trans H;with_reducible exact H2_)|with_reducible exact H|(rw [hy143];exact H)|exact H
 have Ny143:=am hy143
 clear hy143
 have H':=am H
 clear H
 go_enter Try.func178,Try.ntmps178
 go_wp2_with (first|((with_reducible refine gate_dst (N:=11) rfl ?_);refine Kd.S_lit (Kd.slice 5 (Kd.int .u8)) _ 57 ?hg (N:=11) ?hd (xs:=([]:List (List Int))) (inner:=[]) (ok:=fun _=>True) (okp:=fun _=>True) ?hr ?hp (fun _ hk=>hk) trivial (Below.refl _ _) (Nat.le_refl _) d20 ?_;(case hd=>rfl);(case hg=>rfl);(case hr=>first|(go_simp;done)|(go_simp;rfl));(case hp=>exact (Reps.none _ _));intro v144 w4 ho5 hb hg_ hnew_;clear hg_ hnew_;(first|rw [← Ny143.out] at ho5|(simp only [Int.reduceToNat] at ho5;rw [← Ny143.out] at ho5));have n0_:=am (Kd.S_lower ho5 (pz d0));have n1_:=am (pu d0 hb);clear HB;have HO145:=n0_;have HB:=n1_;clear n0_ n1_;clear hb ho5))
 go_loopg [7,13] k (fun kq v7 v13 w'=>∃ (x7_1:List (List Int)) (x13_1:Int),v13 = .int .i64 x13_1∧Aside0 (impl_filled.l0 E kq a1 x7_1 a0 x13_1=some r)∧Aside0 (kq≤k)∧Aside0 (Kd.S (Kd.slice 5 (Kd.int .u8)) 57 w' w.heap.size (fun _=>True) v7 x7_1)∧Aside0 (Below w.heap.size w w'))
 case atStart=>exact ⟨(y143),(0),d2,H',⟨Nat.le_refl _⟩,⟨by (with_reducible repeat (first|apply Kd.S_alloc|apply Kd.S_drewN|apply Kd.S_drew));exact HO145.out⟩,⟨d0⟩⟩
 case round =>
  clear H'
  try clear p2
  obtain ⟨x7_1,x13_1,rfl,HA,HK1,HO_7,HB⟩:=hrel
  cases gk with
  | zero=>exact absurd HA.out (by simp [impl_filled.l0])
  | succ k1 =>
   have H:=HA.out
   clear HA
   simp only [impl_filled.l0] at H
   by_cases c6:x13_1 < a0
   ·rw [if_pos c6] at H
    have c6b0:decide (x13_1 < a0)=true:=decide_eq_true c6
    clear c6
    obtain ⟨y146,hy146⟩:∃ y_:List Int,y_=(([]:List Int)):=⟨_,rfl⟩
    replace H:(impl_filled.l1 E k1 a1 x7_1 x13_1 y146 a0 x13_1 a1 0)=some r:=by first|(rw [hy146];with_reducible exact H)|(have H2_:=(Option.bind_some _ _).symm.trans H;rw [hy146];with_reducible exact H2_)|(have H2_:=(Option.bind_some _ _).symm.trans H;with_reducible exact H2_)|with_reducible exact H|(rw [hy146];exact H)|exact H
    have Ny146:=am hy146
    clear hy146
    have H':=am H
    clear H
    go_wp2_with (first|((with_reducible refine gate_dst (N:=16) rfl ?_);refine Kd.R_lit (Kd.int .u8) _ 5 ?hg (N:=16) ?hd (xs:=([]:List Int)) (inner:=[]) (ok:=fun _=>True) (okp:=fun _=>True) ?hr ?hp (fun _ hk=>hk) trivial (Below.refl _ _) (Nat.le_refl _) d20 ?_;(case hd=>rfl);(case hg=>rfl);(case hr=>first|(go_simp;done)|(go_simp;rfl));(case hp=>exact (Reps.none _ _));intro v147 w7 ho8 hb hg_ hnew_;clear hg_ hnew_;(first|rw [← Ny146.out] at ho8|(simp only [Int.reduceToNat] at ho8;rw [← Ny146.out] at ho8));have n0_:=am (Kd.S_elder' (by (with_reducible repeat (first|apply Kd.S_alloc|apply Kd.S_drewN|apply Kd.S_drew));exact HO_7.out) (Kd.R_base ho8) hb);have n1_:=am (Kd.R_lower ho8 (pz d0));have n2_:=am (pu d0 hb);clear HO_7;clear HB;have HO_7:=n0_;have HO148:=n1_;have HB:=n2_;clear n0_ n1_ n2_;clear hb ho8))
    go_loopg [9,18] k1 (fun kq v9 v18 w'=>∃ (x9_2:List Int) (x18_2:Int),v18 = .int .i64 x18_2∧Aside0 (impl_filled.l1 E kq a1 x7_1 x13_1 x9_2 a0 x13_1 a1 x18_2=some r)∧Aside0 (kq≤k1)∧Aside0 (Kd.S (Kd.slice 5 (Kd.int .u8)) 57 w' w.heap.size (fun k_=>some k_ ≠ (v9:Value).ownBlock) u7 x7_1)∧Aside0 (Kd.R (Kd.int .u8) 5 w' w.heap.size (fun _=>True) v9 x9_2)∧Aside0 (Below w.heap.size w w'))
    case atStart=>exact ⟨(y146),(0),d2,H',⟨Nat.le_refl _⟩,⟨d50⟩,⟨by (with_reducible repeat (first|apply Kd.R_alloc|apply Kd.R_drewN|apply Kd.R_drew));exact HO148.out⟩,⟨d0⟩⟩
    case round =>
     clear H'
     try clear p2
     try clear c6
     try clear c6b0
     try clear c8
     try clear p2
     obtain ⟨x9_2,x18_2,rfl,HA,HK2,HO_7,HO_9,HB⟩:=hrel
     cases gk with
     | zero=>exact absurd HA.out (by simp [impl_filled.l1])
     | succ k2 =>
      have H:=HA.out
      clear HA
      simp only [impl_filled.l1] at H
      by_cases c9:x18_2 < a1
      ·rw [if_pos c9] at H
       have c9b0:decide (x18_2 < a1)=true:=decide_eq_true c9
       clear c9
       replace H:=Option.bind_eq_some_iff.mp H
       obtain ⟨t149,A100,H⟩:=H
       replace H:(if x9_2.length < 140737488355328 then (impl_filled.l1 E k2 a1 x7_1 x13_1 (x9_2 ++ [t149]) a0 x13_1 a1 (wrap64 (x18_2+1))) else (none))=some r:=H
       have A10:=am A100
       clear A100
       by_cases c11:x9_2.length < 140737488355328
       ·rw [if_pos c11] at H
        have LMc11:=am c11
        clear c11
        obtain ⟨y150,hy150⟩:∃ y_:List Int,y_=(x9_2 ++ [t149]):=⟨_,rfl⟩
        replace H:(impl_filled.l1 E k2 a1 x7_1 x13_1 y150 a0 x13_1 a1 (wrap64 (x18_2+1)))=some r:=by first|(rw [hy150];with_reducible exact H)|(have H2_:=(Option.bind_some _ _).symm.trans H;rw [hy150];with_reducible exact H2_)|(have H2_:=(Option.bind_some _ _).symm.trans H;with_reducible exact H2_)|with_reducible exact H|(rw [hy150];exact H)|exact H
        have Ny150:=am hy150
        clear hy150
        have H':=am H
        clear H
        go_wp2_with (first|(go_at_fn g;refine (HX.out _ _ _ _ _ ?dw A10.out).mono ?_;(case dw=>(repeat (first|(with_reducible first|exact HB.out|apply pa|apply pb|apply pd)|exact HB.out)));rintro e w' ⟨rfl,⟨nd,rfl⟩⟩)|((with_reducible refine gate_builtin (b:=.append) (xs:=#[.tmp 21, .tmp 26]) rfl ?_);at_builtin;refine Kd.R_append (Kd.int .u8) (w0:=w) w.heap.size rfl (.tmp 21) (.tmp 26) 57 5 (.int .u8 0) 1 rfl Try.underlying57 fl_info5 rfl d11 d6 u9 x9_2 t149 [.int .u8 t149] (fun _=>True) (fun _=>False) rfl rfl ?aP (fun _ hk=>hk.elim) ?aF ?aO ?aB ?aS ?aL ?_;(case aP=>exact rfl);(case aB=>exact d0);(case aF=>exact (fun _ _=>trivial));(case aO=>exact d9);(case aS=>exact (pz d0));(case aL=>have:=LMc11.out;omega);intro v151 w12 ho hb hg hat;rw [← Ny150.out] at ho;have n0_:=am (Kd.S_after (ok:=(fun _=>True)) (by (with_reducible repeat (first|apply Kd.S_alloc|apply Kd.S_drewN|apply Kd.S_drew));exact Kd.S_mono HO_7.out (fun _ hk=>⟨trivial,hk⟩)) hg hat);have n1_:=am (hb);have n2_:=am (ho);clear HO_7;clear HB;clear HO_9;have HO_7:=n0_;have HB:=n1_;have HO152:=n2_;clear n0_ n1_ n2_;clear ho hb hg hat))
        go_roundg k2
        case measure=>have:=HK1.out;have:=HK2.out;omega
        case rel=>exact ⟨(y150),(wrap64 (x18_2+1)),d2,H',⟨d40⟩,⟨d50⟩,⟨by (with_reducible repeat (first|apply Kd.R_alloc|apply Kd.R_drewN|apply Kd.R_drew));exact HO152.out⟩,⟨d0⟩⟩
       rw [if_neg c11] at H
       exact absurd H d20
      rw [if_neg c9] at H
      have c9b0:decide (x18_2 < a1)=false:=decide_eq_false c9
      clear c9
      by_cases c13:x7_1.length < 5864062014805
      ·rw [if_pos c13] at H
       have LMc13:=am c13
       clear c13
       obtain ⟨y153,hy153⟩:∃ y_:List (List Int),y_=(x7_1 ++ [x9_2]):=⟨_,rfl⟩
       replace H:(impl_filled.l0 E k2 a1 y153 a0 (wrap64 (x13_1+1)))=some r:=by first|(rw [hy153];with_reducible exact H)|(have H2_:=(Option.bind_some _ _).symm.trans H;rw [hy153];with_reducible exact H2_)|(have H2_:=(Option.bind_some _ _).symm.trans H;with_reducible exact H2_)|with_reducible exact H|(rw [hy153];exact H)|exact H
       have Ny153:=am hy153
       clear hy153
       have H':=am H
       clear H
       obtain ⟨Ao15,co15,eo15⟩:=Kd.R_slice HO_9.out
       subst eo15
       go_wp2_with (first|((with_reducible refine gate_builtin (b:=.append) (xs:=#[.tmp 29, .tmp 31]) rfl ?_);at_builtin;refine Kd.S_append (Kd.slice 5 (Kd.int .u8)) (w0:=w) w.heap.size rfl (.tmp 29) (.tmp 31) 37 57 (.slice none 0 0) 24 rfl Try.underlying37 fl_info32 rfl d11 d6 u7 x7_1 x9_2 [.slice Ao15 x9_2.length co15] (fun _=>True) (fun k_=>some k_=(.slice Ao15 x9_2.length co15:Value).ownBlock) rfl rfl ?aP (fun k_ hk_=>((Kd.R_mono (ok':=fun k_=>((fun _=>True)) k_∧some k_ ≠ (u7:Value).ownBlock) (Kd.R_apart' (HO_9.out) (Kd.S_typed HO_7.out) d11) (fun k_ hk=>⟨trivial,hk.2⟩))).1 k_ hk_.symm) ?aF ?aO ?aB ?aS ?aL ?_;(case aP=>exact Kd.M_row (Kd.R_mono (Kd.R_tight rfl (Kd.R_mono (ok':=fun k_=>((fun _=>True)) k_∧some k_ ≠ (u7:Value).ownBlock) (Kd.R_apart' (HO_9.out) (Kd.S_typed HO_7.out) d11) (fun k_ hk=>⟨trivial,hk.2⟩))) (fun _ h_=>h_)));(case aB=>exact d0);(case aF=>exact (fun _ _=>trivial));(case aO=>exact (by (with_reducible repeat (first|apply Kd.S_alloc|apply Kd.S_drewN|apply Kd.S_drew));exact Kd.S_mono HO_7.out (fun k_ hk=>⟨trivial,fun e_=>hk e_⟩)));(case aS=>exact (pz d0));(case aL=>have:=LMc13.out;omega);intro v154 w14 ho hb hg hat;rw [← Ny153.out] at ho;have n0_:=am (hb);have n1_:=am (ho);clear HB;clear HO_7;clear HO_9;have HB:=n0_;have HO155:=n1_;clear n0_ n1_;clear ho hb hg hat))
       go_roundg k2
       case measure=>have:=HK1.out;have:=HK2.out;omega
       case rel=>exact ⟨(y153),(wrap64 (x13_1+1)),d2,H',⟨d40⟩,⟨by (with_reducible repeat (first|apply Kd.S_alloc|apply Kd.S_drewN|apply Kd.S_drew));exact HO155.out⟩,⟨d0⟩⟩
      rw [if_neg c13] at H
      exact absurd H d20
   rw [if_neg c6] at H
   have c6b0:decide (x13_1 < a0)=false:=decide_eq_false c6
   clear c6
   obtain rfl:=Option.some.inj H
   go_wp2
   go_ret
   exact ⟨_,d5,by (with_reducible repeat (first|apply Kd.S_alloc|apply Kd.S_drewN|apply Kd.S_drew));exact HO_7.out,d0⟩

set_option maxHeartbeats 4000000 in
theorem impl_cauchy.inv_calls (k:Nat) (a t:Int) (W:World) (h:impl_power.f k a 254=some t) :
  Calls Try.prog 207 #[.int .u8 a] W fun e w'=>e = .returned (.int .u8 t)∧Drawn0 W w':=by
 have HX:=am h
 clear h
 go_enter Try.func207,Try.ntmps207
 go_wp2_with (go_at_call 180;(with_reducible refine (impl_power.calls k a 254 t _ HX.out).mono ?_);rintro e w' ⟨rfl,⟨q,rfl⟩⟩)
 go_ret
 exact ⟨rfl,⟨_,rfl⟩⟩
def impl_cauchy.E (c:Int) (k:Nat) (i j:Int):Option Int:=impl_power.f k ((Go.bits .xor .i64 (wrap64 (c+i)) j) % 256) 254
theorem impl_cauchy.mono_E (c:Int):∀ i j k,LeO (impl_cauchy.E c k i j) (impl_cauchy.E c (k+1) i j):=fun i j k=>impl_power.mono _ _ _
def impl_cauchy.f (k:Nat) (a0:Int) (a1:Int):Option ((List (List Int))):=impl_filled.f (impl_cauchy.E a1) k a0 a1
theorem impl_cauchy.mono:∀ a0 a1 k,LeO (impl_cauchy.f k a0 a1) (impl_cauchy.f (k+1) a0 a1):=fun a0 a1 k=>impl_filled.mono _ (impl_cauchy.mono_E a1) a0 a1 k
set_option maxHeartbeats 4000000 in
theorem impl_cauchy.elem (gb:Nat) (c:Int) (k:Nat) (i j t:Int) (W:World) (hbox:W.cell? ⟨gb,0,none⟩=some (.int .i64 c)) (h:impl_cauchy.E c k i j=some t) :
  Calls Try.prog 208 #[.int .i64 i, .int .i64 j, .pointer (some ⟨gb,0,none⟩)] W fun e w'=>e = .returned (.int .u8 t)∧Drawn0 W w':=by
 have HX:=am h
 clear h
 go_enter Try.func208,Try.ntmps208
 go_wp2_with fail
 refine (impl_cauchy.inv_calls k ((Go.bits .xor .i64 (wrap64 (c+i)) j) % 256) t _ HX.out).mono ?_
 rintro e w' ⟨rfl,⟨q,rfl⟩⟩
 go_wp2
 go_ret
 exact ⟨rfl,⟨_,rfl⟩⟩
set_option maxHeartbeats 4000000 in
theorem impl_cauchy.calls (k:Nat) (a0:Int) (a1:Int) (r:List (List Int)) (w:World) (h:impl_cauchy.f k a0 a1=some r) :
  Calls Try.prog 188 #[.int .i64 a0, .int .i64 a1] w fun e w'=>∃ v0_:Value,e = .returned (v0_)∧Kd.S (Kd.slice 5 (Kd.int .u8)) 57 w' w.heap.size (fun _=>True) v0_ r∧Below w.heap.size w w':=by
 go_enter Try.func188,Try.ntmps188
 go_wp2_with fail
 obtain ⟨W,hW⟩:∃ W:World,W=w.alloc (.cells #[.int .i64 a1] 3 (0,0)):=⟨_,rfl⟩
 have hb:Below w.heap.size w W:=by rw [hW];exact pa (Below.refl _ _) _
 have hc1:W.cell? ⟨w.heap.size,0,none⟩=some (.int .i64 a1):=by rw [hW];go_simp
 have hlt:w.heap.size < W.heap.size:=by rw [hW];simp
 rw [← hW]
 refine (impl_filled.calls (impl_cauchy.E a1) 208 (enters_of Try.func208 rfl rfl) #[.pointer (some ⟨w.heap.size,0,none⟩)] k a0 a1 r W (fun k i j t W' hb' hE=>impl_cauchy.elem w.heap.size a1 k i j t W' ((hb'.cell hlt).trans hc1) hE) h).mono ?_
 rintro e w' ⟨v,rfl,hS,hB⟩
 go_wp2
 go_ret
 exact ⟨_,rfl,Kd.S_lower hS (Nat.le_of_lt hlt),below_then hb (Nat.le_of_lt hlt) hB⟩

section
open Go.Proofs.Ytajikfnpcobnpaa.KitX
theorem info_row_:(Try.prog.info? 57).map (fun i=>(i.zero,i.size,i.bytes))=some (some (.slice none 0 0),1,24):=by kernel_rfl
def impl_codeRows.f (k:Nat) (a0:Int) (a1:Int):Option ((List (List Int))):=(impl_identity.f k a0).bind fun x=>((impl_cauchy.f k a1 a0).bind fun y=>(if x.length+y.length < 5864062014805 then (some (x ++ y)) else (none)))
theorem impl_codeRows.mono:∀ a0 a1 k,LeO (impl_codeRows.f k a0 a1) (impl_codeRows.f (k+1) a0 a1):=fun a0 a1 k=>by
 unfold impl_codeRows.f
 exact LeO.bind (impl_identity.mono _ _) (fun _=>LeO.bind (impl_cauchy.mono _ _ _) (fun _=>LeO.refl _))
set_option maxHeartbeats 4000000 in
theorem impl_codeRows.calls (k:Nat) (a0:Int) (a1:Int) (r:List (List Int)) (w:World) (h:impl_codeRows.f k a0 a1=some r) :
  Calls Try.prog 138 #[.int .i64 a0, .int .i64 a1] w fun e w'=>∃ v0_:Value,e = .returned (v0_)∧Kd.S (Kd.slice 5 (Kd.int .u8)) 57 w' w.heap.size (fun _=>True) v0_ r∧Below w.heap.size w w':=by
 unfold impl_codeRows.f at h
 replace h:=Option.bind_eq_some_iff.mp h
 obtain ⟨x,hx,h⟩:=h
 replace h:=Option.bind_eq_some_iff.mp h
 obtain ⟨y,hy,h⟩:=h
 by_cases hl:x.length+y.length < 5864062014805
 ·rw [if_pos hl] at h
  obtain rfl:=Option.some.inj h
  clear h
  have HX:=am hx
  have HY:=am hy
  have HL:=am hl
  clear hx hy hl
  go_enter Try.func138,Try.ntmps138
  go_wp2_with fail
  refine (impl_identity.calls k a0 x _ HX.out).mono ?_
  rintro e w1 ⟨v1,rfl,ho1,hb1⟩
  have HO1:=am ho1
  have HB1:=am hb1
  clear ho1 hb1
  go_wp2_with fail
  refine (impl_cauchy.calls k a1 a0 y _ HY.out).mono ?_
  rintro e w2 ⟨v2,rfl,ho2,hb2⟩
  obtain ⟨A2,c2,rfl⟩:=Kd.S_slice ho2
  have HB2:=am (pu HB1.out hb2:Below w.heap.size w w2)
  have H1:=am (Kd.S_mono (Kd.S_below (Kd.S_bound HO1.out) hb2) (ok':=fun k=>True∧¬ w1.heap.size≤k) (fun k hk=>⟨trivial,by have:=hk.2.2.1;omega⟩))
  have H2:=am (Kd.S_lower (Kd.S_mono (Kd.S_bound ho2) (ok':=fun k=>w1.heap.size≤k) (fun k hk=>hk.2.1)) HB1.out.size)
  have HN:=am (fun k (hk:w1.heap.size≤k) (he:some k=v1.ownBlock)=>by have:=Kd.S_lt HO1.out k he.symm;omega:∀ k,w1.heap.size≤k→some k=v1.ownBlock→False)
  clear ho2 hb2 HO1 HB1
  go_wp2_with (at_builtin;refine S_append_rows (Kd.slice 5 (Kd.int .u8)) (w0:=w) w.heap.size rfl (.tmp 6) (.tmp 9) 37 57 (.slice none 0 0) 24 rfl Try.underlying37 info_row_ rfl d11 d6 v1 x y A2 y.length c2 (fun _=>True) (fun k=>w1.heap.size≤k) rfl rfl H1.out H2.out (fun k hk=>⟨trivial,fun he=>HN.out k hk he⟩) (fun _ _=>trivial) HB2.out HB2.out.size (by have:=HL.out;omega) ?_;intro v3 w3 ho3 hb3 hg hat;clear hg hat)
  go_ret
  exact ⟨_,rfl,ho3,hb3⟩
 rw [if_neg hl] at h
 cases h
end

def impl_within.f (a0:Int) (a1:Int) (a2:Int):Option (Bool):=if a0 ≥ a1 then (some (decide (a0≤a2))) else (some false)
theorem impl_within.calls (a0:Int) (a1:Int) (a2:Int) (r:Bool) (w:World) (h:impl_within.f a0 a1 a2=some r) :
  Calls Try.prog 137 #[.int .i64 a0, .int .i64 a1, .int .i64 a2] w fun e w'=>e = .returned (.bool r)∧Drawn0 w w':=by
 have H:(if a0 ≥ a1 then (some (decide (a0≤a2))) else (some false))=some r:=h
 clear h
 by_cases c4:a0 ≥ a1
 ·rw [if_pos c4] at H
  have c4b0:decide (a1≤a0)=true:=decide_eq_true c4
  clear c4
  obtain rfl:=Option.some.inj H
  go_enter Try.func137,Try.ntmps137
  go_wp2
  go_ret
  exact ⟨d2,d10⟩
 rw [if_neg c4] at H
 have c4b0:decide (a1≤a0)=false:=decide_eq_false c4
 clear c4
 obtain rfl:=Option.some.inj H
 go_enter Try.func137,Try.ntmps137
 go_wp2
 go_ret
 exact ⟨d2,d10⟩

def impl_GoodShape.f (a0:Int) (a1:Int):Option (Bool):=(impl_within.f a0 1 8).bind fun t283=>(if t283=true then ((impl_within.f a1 1 6).bind fun t284=>(some t284)) else (some false))
theorem impl_GoodShape.calls (a0:Int) (a1:Int) (r:Bool) (w:World) (h:impl_GoodShape.f a0 a1=some r) :
  Calls Try.prog 144 #[.int .i64 a0, .int .i64 a1] w fun e w'=>e = .returned (.bool r)∧Drawn0 w w':=by
 have H:((impl_within.f a0 1 8).bind fun t283=>(if t283=true then ((impl_within.f a1 1 6).bind fun t284=>(some t284)) else (some false)))=some r:=h
 clear h
 replace H:=Option.bind_eq_some_iff.mp H
 obtain ⟨t283,A30,H⟩:=H
 replace H:(if t283=true then ((impl_within.f a1 1 6).bind fun t284=>(some t284)) else (some false))=some r:=H
 have A3:=am A30
 clear A30
 by_cases c4:t283=true
 ·subst c4
  have H1:((impl_within.f a1 1 6).bind fun t284=>(some t284))=some r:=by rw [if_pos rfl] at H;exact H
  clear H
  have H:=H1
  clear H1
  replace H:=Option.bind_eq_some_iff.mp H
  obtain ⟨t284,A50,H⟩:=H
  replace H:(some t284)=some r:=H
  have A5:=am A50
  clear A50
  obtain rfl:=Option.some.inj H
  go_enter Try.func144,Try.ntmps144
  go_wp2_with (first|((with_reducible refine gate_callee (f:=137) rfl ?_);refine goesL_ (some 6) rfl rfl Try.func137 d3 rfl #[.int .i64 a0, .int .i64 1, .int .i64 8] rfl d4 ?_;(with_reducible refine (impl_within.calls a0 1 8 true _ A3.out).mono ?_);rintro e w' ⟨rfl,⟨nd,rfl⟩⟩;refine ⟨_,rfl,?_⟩)|(go_at_call 137;(with_reducible refine (impl_within.calls a1 1 6 t284 _ A5.out).mono ?_);rintro e w' ⟨rfl,⟨nd,rfl⟩⟩))
  go_ret
  exact ⟨d2,d10⟩
 replace c4:=Bool.eq_false_iff.mpr c4
 subst c4
 have H1:(some false)=some r:=by rw [if_neg (show ¬ (false=true) by decide)] at H;exact H
 clear H
 have H:=H1
 clear H1
 obtain rfl:=Option.some.inj H
 go_enter Try.func144,Try.ntmps144
 go_wp2_with (first|((with_reducible refine gate_callee (f:=137) rfl ?_);refine goesL_ (some 6) rfl rfl Try.func137 d3 rfl #[.int .i64 a0, .int .i64 1, .int .i64 8] rfl d4 ?_;(with_reducible refine (impl_within.calls a0 1 8 false _ A3.out).mono ?_);rintro e w' ⟨rfl,⟨nd,rfl⟩⟩;refine ⟨_,rfl,?_⟩))
 go_ret
 exact ⟨d2,d10⟩

def impl_isIncreasing.l0:Nat→List Int→Int→List Int→Int→Int→Option (Bool)
 | 0,_,_,_,_,_=>none
 | k+1,x0,x1,x7,x8,x9=>if x9 < x8 then (if 0≤x9 then (if x9 < (x7.length:Int) then ((impl_within.f (rd x7 x9) 0 (wrap64 (x1 - 1))).bind fun t286=>(if t286=true then (if x9 > 0 then (if 0≤(wrap64 (x9 - 1)) then (if (wrap64 (x9 - 1)) < (x0.length:Int) then (if (rd x7 x9)≤(rd x0 (wrap64 (x9 - 1))) then (some false) else (impl_isIncreasing.l0 k x0 x1 x7 x8 (wrap64 (x9+1)))) else (none)) else (none)) else (impl_isIncreasing.l0 k x0 x1 x7 x8 (wrap64 (x9+1)))) else (some false))) else (none)) else (none)) else (some true)
def impl_isIncreasing.f (k:Nat) (l0:List Int) (a1:Int):Option (Bool):=impl_isIncreasing.l0 k l0 a1 l0 (l0.length:Int) 0
theorem impl_isIncreasing.mono_l:∀ k,(∀ y0 y1 y2 y3 y4,LeO (impl_isIncreasing.l0 k y0 y1 y2 y3 y4) (impl_isIncreasing.l0 (k+1) y0 y1 y2 y3 y4))
 | 0=>fun _ _ _ _ _ r h=>by simp [impl_isIncreasing.l0] at h
 | k+1=>by
  have ih0:=impl_isIncreasing.mono_l k
  intro y0 y1 y2 y3 y4
  unfold impl_isIncreasing.l0
  repeat' first
  | (with_reducible exact ih0 _ _ _ _ _)
  |(with_reducible exact LeO.refl _)|(with_reducible exact LeO.none _)|(with_reducible refine LeO.ite ?_ ?_)|(with_reducible refine LeO.bind ?_ (fun _=>?_))|exact ih0 _ _ _ _ _|exact LeO.none _|refine LeO.ite ?_ ?_|refine LeO.bind ?_ (fun _=>?_)
theorem impl_isIncreasing.mono:∀ a0 a1 k,LeO (impl_isIncreasing.f k a0 a1) (impl_isIncreasing.f (k+1) a0 a1):=by
 intro a0 a1 k
 have ih0:=impl_isIncreasing.mono_l k
 unfold impl_isIncreasing.f
 repeat' first
   | (with_reducible exact ih0 _ _ _ _ _)
   |(with_reducible exact LeO.refl _)|(with_reducible exact LeO.none _)|(with_reducible refine LeO.ite ?_ ?_)|(with_reducible refine LeO.bind ?_ (fun _=>?_))|exact ih0 _ _ _ _ _|exact LeO.none _|refine LeO.ite ?_ ?_|refine LeO.bind ?_ (fun _=>?_)
theorem impl_isIncreasing.calls (k:Nat) (A0:Option Addr) (c0:Nat) (l0:List Int) (a1:Int) (r:Bool) (w:World) (hr0:Kd.C (Kd.int .i64) w A0 l0.length l0) (hc0:l0.length≤c0) (h:impl_isIncreasing.f k l0 a1=some r) :
  Calls Try.prog 96 #[.slice A0 l0.length c0, .int .i64 a1] w fun e w'=>e = .returned (.bool r)∧Drawn0 w w':=by
 have HR0:=am hr0
 have HC0:=am hc0
 clear hr0 hc0
 have H:(impl_isIncreasing.l0 k l0 a1 l0 (l0.length:Int) 0)=some r:=h
 clear h
 have H':=am H
 clear H
 go_enter Try.func96,Try.ntmps96
 go_wp2
 go_loopg [9] k (fun kq v9 w'=>∃ (x9_1:Int),v9 = .int .i64 x9_1∧Aside0 (impl_isIncreasing.l0 kq l0 a1 l0 (l0.length:Int) x9_1=some r)∧Aside0 (kq≤k)∧Drawn0 w w')
 case atStart=>exact ⟨(0),d2,H',⟨Nat.le_refl _⟩,d10⟩
 case round =>
  clear H'
  try clear p2
  obtain ⟨x9_1,rfl,HA,HK1,⟨m1,rfl⟩⟩:=hrel
  cases gk with
  | zero=>exact absurd HA.out (by simp [impl_isIncreasing.l0])
  | succ k1 =>
   have H:=HA.out
   clear HA
   simp only [impl_isIncreasing.l0] at H
   by_cases c3:x9_1 < (l0.length:Int)
   ·rw [if_pos c3] at H
    have c3b0:decide (x9_1 < (l0.length:Int))=true:=decide_eq_true c3
    clear c3
    by_cases c4:0≤x9_1
    ·rw [if_pos c4] at H
     have c4b0:decide (0≤x9_1)=true:=decide_eq_true c4
     clear c4
     by_cases c5:x9_1 < (l0.length:Int)
     ·rw [if_pos c5] at H
      have c5b0:decide (x9_1 < (l0.length:Int))=true:=decide_eq_true c5
      clear c5
      replace H:=Option.bind_eq_some_iff.mp H
      obtain ⟨t286,A60,H⟩:=H
      replace H:(if t286=true then (if x9_1 > 0 then (if 0≤(wrap64 (x9_1 - 1)) then (if (wrap64 (x9_1 - 1)) < (l0.length:Int) then (if (rd l0 x9_1)≤(rd l0 (wrap64 (x9_1 - 1))) then (some false) else (impl_isIncreasing.l0 k1 l0 a1 l0 (l0.length:Int) (wrap64 (x9_1+1)))) else (none)) else (none)) else (impl_isIncreasing.l0 k1 l0 a1 l0 (l0.length:Int) (wrap64 (x9_1+1)))) else (some false))=some r:=H
      have A6:=am A60
      clear A60
      by_cases c7:t286=true
      ·subst c7
       have H1:(if x9_1 > 0 then (if 0≤(wrap64 (x9_1 - 1)) then (if (wrap64 (x9_1 - 1)) < (l0.length:Int) then (if (rd l0 x9_1)≤(rd l0 (wrap64 (x9_1 - 1))) then (some false) else (impl_isIncreasing.l0 k1 l0 a1 l0 (l0.length:Int) (wrap64 (x9_1+1)))) else (none)) else (none)) else (impl_isIncreasing.l0 k1 l0 a1 l0 (l0.length:Int) (wrap64 (x9_1+1))))=some r:=by rw [if_pos rfl] at H;exact H
       clear H
       have H:=H1
       clear H1
       by_cases c8:x9_1 > 0
       ·rw [if_pos c8] at H
        have c8b0:decide (0 < x9_1)=true:=decide_eq_true c8
        clear c8
        obtain ⟨ji9,hji9⟩:∃ j_:Int,(wrap64 (x9_1 - 1))=j_:=⟨_,rfl⟩
        replace H:(if 0≤(ji9) then (if (ji9) < (l0.length:Int) then (if (rd l0 x9_1)≤(rd l0 (ji9)) then (some false) else (impl_isIncreasing.l0 k1 l0 a1 l0 (l0.length:Int) (wrap64 (x9_1+1)))) else (none)) else (none))=some r:=by first|(rw [hji9] at H;exact H)|(simp only [hji9] at H ⊢;exact H)
        (try rw [hji9] at A6)
        have hji9w:(IntKind.i64.wrap (x9_1 - 1))=ji9:=(i64_w _).trans hji9
        by_cases c10:0≤(ji9)
        ·rw [if_pos c10] at H
         have c10b0:decide (0≤(ji9))=true:=decide_eq_true c10
         clear c10
         by_cases c11:(ji9) < (l0.length:Int)
         ·rw [if_pos c11] at H
          have c11b0:decide ((ji9) < (l0.length:Int))=true:=decide_eq_true c11
          clear c11
          by_cases c12:(rd l0 x9_1)≤(rd l0 (ji9))
          ·rw [if_pos c12] at H
           have c12b0:decide ((rd l0 x9_1)≤(rd l0 (ji9)))=true:=decide_eq_true c12
           clear c12
           obtain rfl:=Option.some.inj H
           have p285:0≤(x9_1:Int):=od d1
           have q285:x9_1 < (l0.length:Int):=od d1
           obtain ⟨ad285,e285,hx285_0⟩:=Kd.at_int HR0.out x9_1 p285 q285
           cases e285
           replace p285:=eq_true p285
           replace q285:=eq_true q285
           go_wp2_with (first|((with_reducible refine gate_callee (f:=137) rfl ?_);refine goesL_ (some 17) rfl rfl Try.func137 d3 rfl #[.int .i64 (rd l0 x9_1), .int .i64 0, .int .i64 (wrap64 (a1 - 1))] rfl d4 ?_;(with_reducible refine (impl_within.calls (rd l0 x9_1) 0 (wrap64 (a1 - 1)) true _ A6.out).mono ?_);rintro e w' ⟨rfl,⟨nd,rfl⟩⟩;refine ⟨_,rfl,?_⟩;have p287:0≤((ji9):Int):=od d1;have q287:(ji9) < (l0.length:Int):=od d1;obtain ⟨ad287,e287,hx287_0⟩:=Kd.at_int HR0.out (ji9) p287 q287;obtain rfl:ad285=ad287:=(by injection e287);replace p287:=eq_true p287;replace q287:=eq_true q287))
           go_ret
           exact ⟨by first|rfl|(simp;done)|(simp only [← hji9] <;> (first|rfl|simp))|(simp [*];done),d10⟩
          rw [if_neg c12] at H
          have c12b0:decide ((rd l0 x9_1)≤(rd l0 (ji9)))=false:=decide_eq_false c12
          clear c12
          have H':=am H
          clear H
          have p285:0≤(x9_1:Int):=od d1
          have q285:x9_1 < (l0.length:Int):=od d1
          obtain ⟨ad285,e285,hx285_0⟩:=Kd.at_int HR0.out x9_1 p285 q285
          cases e285
          replace p285:=eq_true p285
          replace q285:=eq_true q285
          go_wp2_with (first|((with_reducible refine gate_callee (f:=137) rfl ?_);refine goesL_ (some 17) rfl rfl Try.func137 d3 rfl #[.int .i64 (rd l0 x9_1), .int .i64 0, .int .i64 (wrap64 (a1 - 1))] rfl d4 ?_;(with_reducible refine (impl_within.calls (rd l0 x9_1) 0 (wrap64 (a1 - 1)) true _ A6.out).mono ?_);rintro e w' ⟨rfl,⟨nd,rfl⟩⟩;refine ⟨_,rfl,?_⟩;have p287:0≤((ji9):Int):=od d1;have q287:(ji9) < (l0.length:Int):=od d1;obtain ⟨ad287,e287,hx287_0⟩:=Kd.at_int HR0.out (ji9) p287 q287;obtain rfl:ad285=ad287:=(by injection e287);replace p287:=eq_true p287;replace q287:=eq_true q287))
          go_roundg k1
          case measure=>have:=HK1.out;omega
          case rel=>exact ⟨(wrap64 (x9_1+1)),d2,H',⟨d26⟩,d10⟩
         rw [if_neg c11] at H
         exact absurd H d20
        rw [if_neg c10] at H
        exact absurd H d20
       rw [if_neg c8] at H
       have c8b0:decide (0 < x9_1)=false:=decide_eq_false c8
       clear c8
       have H':=am H
       clear H
       have p285:0≤(x9_1:Int):=od d1
       have q285:x9_1 < (l0.length:Int):=od d1
       obtain ⟨ad285,e285,hx285_0⟩:=Kd.at_int HR0.out x9_1 p285 q285
       cases e285
       replace p285:=eq_true p285
       replace q285:=eq_true q285
       go_wp2_with (first|((with_reducible refine gate_callee (f:=137) rfl ?_);refine goesL_ (some 17) rfl rfl Try.func137 d3 rfl #[.int .i64 (rd l0 x9_1), .int .i64 0, .int .i64 (wrap64 (a1 - 1))] rfl d4 ?_;(with_reducible refine (impl_within.calls (rd l0 x9_1) 0 (wrap64 (a1 - 1)) true _ A6.out).mono ?_);rintro e w' ⟨rfl,⟨nd,rfl⟩⟩;refine ⟨_,rfl,?_⟩))
       go_roundg k1
       case measure=>have:=HK1.out;omega
       case rel=>exact ⟨(wrap64 (x9_1+1)),d2,H',⟨d26⟩,d10⟩
      replace c7:=Bool.eq_false_iff.mpr c7
      subst c7
      have H1:(some false)=some r:=by rw [if_neg (show ¬ (false=true) by decide)] at H;exact H
      clear H
      have H:=H1
      clear H1
      obtain rfl:=Option.some.inj H
      have p285:0≤(x9_1:Int):=od d1
      have q285:x9_1 < (l0.length:Int):=od d1
      obtain ⟨ad285,e285,hx285_0⟩:=Kd.at_int HR0.out x9_1 p285 q285
      cases e285
      replace p285:=eq_true p285
      replace q285:=eq_true q285
      go_wp2_with (first|((with_reducible refine gate_callee (f:=137) rfl ?_);refine goesL_ (some 17) rfl rfl Try.func137 d3 rfl #[.int .i64 (rd l0 x9_1), .int .i64 0, .int .i64 (wrap64 (a1 - 1))] rfl d4 ?_;(with_reducible refine (impl_within.calls (rd l0 x9_1) 0 (wrap64 (a1 - 1)) false _ A6.out).mono ?_);rintro e w' ⟨rfl,⟨nd,rfl⟩⟩;refine ⟨_,rfl,?_⟩))
      go_ret
      exact ⟨d2,d10⟩
     rw [if_neg c5] at H
     exact absurd H d20
    rw [if_neg c4] at H
    exact absurd H d20
   rw [if_neg c3] at H
   have c3b0:decide (x9_1 < (l0.length:Int))=false:=decide_eq_false c3
   clear c3
   obtain rfl:=Option.some.inj H
   go_wp2
   go_ret
   exact ⟨d2,d10⟩

-- NOT PRINTED: function 210 (slices_IndexFunc_string_string)

-- NOT PRINTED: function 204 (slices_ContainsFunc_string_string)

section
open Go.Proofs.Ytajikfnpcobnpaa.KitW
set_option maxHeartbeats 4000000 in
theorem texts_IndexFunc (g:Nat) (eg:∀ args w,(callFunc g args).run Try.prog w = .ok (.enter g args) w) (fv:Value) (p:Nat→Bool) (ad:Addr) (n c:Nat) (v:Nat→Value) (w:World) (hbig:n≤9223372036854775806)
  (hc:∀ i,i < n→w.cell? (ad.add i)=some (v i))
  (hp:∀ i,i < n→∀ W,Drawn0 w W→Calls Try.prog g #[v i,fv] W fun e w'=>e = .returned (.bool (p i))∧Drawn0 W w') :
  Calls Try.prog 210 #[.slice (some ad) n c, .func (.func g) #[] #[fv]] w fun e w'=>(∃ r,e = .returned (.int .i64 r)∧IdxOf p n r)∧Drawn0 w w':=by
 have HP:=am hp
 have HC:=am hc
 clear hp hc
 go_enter Try.func210,Try.ntmps210
 go_wp2
 go_loopg [5,8] n (fun gg _ s8 wr=>∃ kk:Nat,kk≤n∧n - kk≤gg∧s8 = .int .i64 kk∧Aside0 (Drawn0 w wr)∧Aside0 (∀ j,j < kk→p j=false))
 case atStart=>exact ⟨0,Nat.zero_le _,d6,rfl,⟨Drawn0.refl _⟩,⟨fun j hj=>absurd hj (Nat.not_lt_zero _)⟩⟩
 case round =>
  obtain ⟨kk,hkk,hg,rfl,HD,HA⟩:=hrel
  by_cases hlt:kk < n
  ·have hltz:(kk:Int) < (n:Int):=by omega
   have hcell:wr.cell? (ad.add kk)=some (v kk):=by
    obtain ⟨q,rfl⟩:=HD.out.out
    exact HC.out kk hlt
   have hcall:=HP.out kk hlt
   cases hq:p kk with
   | true =>
    rw [hq] at hcall
    have HQ:=am hq
    clear hq
    have HX:=am hcall
    clear hcall
    go_wp2_with (go_at_fn g;refine (HX.out _ ?dr).mono ?_;(case dr=>exact HD.out);rintro e w' ⟨rfl,hd⟩)
    go_ret
    exact ⟨⟨_,rfl, .inr ⟨kk,hlt,rfl,HQ.out,HA.out⟩⟩,drawn_trans HD.out hd⟩
   | false =>
    rw [hq] at hcall
    have HQ:=am hq
    clear hq
    have HX:=am hcall
    clear hcall
    go_wp2_with (go_at_fn g;refine (HX.out _ ?dr).mono ?_;(case dr=>exact HD.out);rintro e w' ⟨rfl,hd⟩)
    go_roundg (n - (kk+1))
    case measure=>omega
    case rel=>exact ⟨kk+1,d6,d6,by go_num,⟨drawn_trans HD.out hd⟩,⟨fun j hj=>by by_cases e:j=kk;exact e ▸ HQ.out;exact HA.out j d6⟩⟩
  have hltz:¬ (kk:Int) < (n:Int):=by omega
  have:kk=n:=by omega
  subst this
  go_wp2
  go_ret
  exact ⟨⟨_,rfl, .inl ⟨rfl,HA.out⟩⟩,HD.out⟩
set_option maxHeartbeats 4000000 in
theorem texts_ContainsFunc (g:Nat) (eg:∀ args w,(callFunc g args).run Try.prog w = .ok (.enter g args) w) (fv:Value) (p:Nat→Bool) (ad:Addr) (n c:Nat) (v:Nat→Value) (w:World) (hbig:n≤9223372036854775806)
  (hc:∀ i,i < n→w.cell? (ad.add i)=some (v i))
  (hp:∀ i,i < n→∀ W,Drawn0 w W→Calls Try.prog g #[v i,fv] W fun e w'=>e = .returned (.bool (p i))∧Drawn0 W w') :
  Calls Try.prog 204 #[.slice (some ad) n c, .func (.func g) #[] #[fv]] w fun e w'=>e = .returned (.bool ((List.range n).any p))∧Drawn0 w w':=by
 have HX:=am (texts_IndexFunc g eg fv p ad n c v w hbig hc hp)
 clear hp hc
 go_enter Try.func204,Try.ntmps204
 go_wp2_with (go_at_call 210;refine HX.out.mono ?_;rintro e w' ⟨⟨r,rfl,hr⟩,hd⟩)
 go_ret
 refine ⟨?_,hd⟩
 rw [← idxOf_nonneg hr]
 first|rfl|(simp;done)
/-- No text at all: nothing is looked at. -/
theorem texts_none (A:Option Addr) (c:Nat) (fv:Value) (w:World) :
  Calls Try.prog 204 #[.slice A 0 c,fv] w fun e w'=>e = .returned (.bool false)∧w=w':=by
 have HX:∀ w:World,Calls Try.prog 210 #[.slice A 0 c,fv] w fun e w'=>e = .returned (.int .i64 (-1))∧w=w':=by
  intro w
  go_enter Try.func210,Try.ntmps210
  go_wp2
  go_loopg [5,8] 0 (fun gg _ s8 wr=>s8 = .int .i64 0∧w=wr)
  case atStart=>exact ⟨rfl,rfl⟩
  case round =>
   obtain ⟨rfl,rfl⟩:=hrel
   go_wp2
   go_ret
   exact ⟨rfl,rfl⟩
 go_enter Try.func204,Try.ntmps204
 go_wp2_with (go_at_call 210;refine (HX _).mono ?_;rintro e w' ⟨rfl,rfl⟩)
 go_ret
 exact ⟨rfl,rfl⟩
/-- The test of one text. -/
theorem texts_test (gb:Nat) (ad:Addr) (n c:Nat) (hn:0 < n) (s0 s:ByteArray) (hs:s.size≤140737488355328) (h0s:s0.size≤140737488355328) (W:World)
  (hbox:W.cell? ⟨gb,0,none⟩=some (.slice (some ad) n c)) (h0:W.cell? (ad.add 0)=some (.string s0)) :
  Calls Try.prog 205 #[.string s, .pointer (some ⟨gb,0,none⟩)] W fun e w'=>e = .returned (.bool (decide (40 < s.size) ||s.size != s0.size))∧Drawn0 W w':=by
 rw [Addr.add_zero'] at h0
 have hn':(0 < n)=True:=eq_true hn
 by_cases h1:40 < s.size
 ·have h1z:decide ((s.size:Int) > 40)=true:=decide_eq_true d6
  have h1n:decide (40 < s.size)=true:=decide_eq_true h1
  go_enter Try.func205,Try.ntmps205
  go_wp2
  go_ret
  refine ⟨?_,Drawn0.refl _⟩
  rw [h1n];rfl
 have h1z:decide ((s.size:Int) > 40)=false:=decide_eq_false d6
 have h1n:decide (40 < s.size)=false:=decide_eq_false h1
 go_enter Try.func205,Try.ntmps205
 go_wp2
 go_ret
 refine ⟨?_,Drawn0.refl _⟩
 rw [h1n,Bool.false_or]
 by_cases e:s.size=s0.size
 ·rw [e];simp
 have e2:¬ ((s.size:Int)=(s0.size:Int)):=by omega
 simp only [bne]
 rw [show ((s.size:Int) == (s0.size:Int))=false by simpa using e2,show (s.size == s0.size)=false by simpa using e]
 rfl
def impl_areEqual.f (l0:List ByteArray):Option (Bool):=if l0.length≤140737488355328∧∀ s ∈ l0,s.size≤140737488355328 then some (textsOk l0) else none
set_option maxHeartbeats 4000000 in
theorem impl_areEqual.calls (A0:Option Addr) (c0:Nat) (l0:List ByteArray) (r:Bool) (w:World) (hr0:Kd.C Kd.string w A0 l0.length l0) (hc0:l0.length≤c0) (h:impl_areEqual.f l0=some r) :
  Calls Try.prog 177 #[.slice A0 l0.length c0] w fun e w'=>e = .returned (.bool r)∧Below w.heap.size w w':=by
 unfold impl_areEqual.f at h
 by_cases hs:l0.length≤140737488355328∧∀ s ∈ l0,s.size≤140737488355328
 ·rw [if_pos hs] at h
  obtain rfl:=Option.some.inj h
  clear h
  have HS:=am hs
  clear hs
  by_cases hp:0 < l0.length
  ·obtain ⟨ad,rfl,_⟩:=hr0.2.2 hp
   have hb9:l0.length≤9223372036854775806:=by have:=HS.out.1;omega
   have hcell:∀ i,i < l0.length→w.cell? (ad.add i)=some (.string (l0.getD i ByteArray.empty)):=fun i hi=>by
    obtain ⟨ad',e,h⟩:=Kd.at_string hr0 (i:Int) d6 d6
    injection e with e
    subst e
    rw [Int.toNat_natCast] at h
    rw [h]
    unfold rdOf
    rw [Int.toNat_natCast]
   have HC:=am hcell
   have HP:=am hp
   have H9:=am hb9
   clear hcell hr0 hp hb9
   go_enter Try.func177,Try.ntmps177
   go_wp2_with fail
   obtain ⟨W,hW⟩:∃ W:World,W=w.alloc (.cells #[.slice (some ad) l0.length c0] 22 (0,0)):=⟨_,rfl⟩
   have hb:Below w.heap.size w W:=by rw [hW];exact pa (Below.refl _ _) _
   have hc1:W.cell? ⟨w.heap.size,0,none⟩=some (.slice (some ad) l0.length c0):=by rw [hW];go_simp
   rw [← hW]
   clear hW
   have hcell:∀ i,i < l0.length→W.cell? (ad.add i)=some (.string (l0.getD i ByteArray.empty)):=fun i hi=>(hb.cell (World.block_lt_of_cell? w _ (HC.out i hi))).trans (HC.out i hi)
   have hsz:∀ i,(l0.getD i ByteArray.empty).size≤140737488355328:=fun i=>by
    rw [List.getD_eq_getElem?_getD]
    by_cases hi:i < l0.length
    ·rw [List.getElem?_eq_getElem hi];exact HS.out.2 _ (List.getElem_mem hi)
    rw [List.getElem?_eq_none d6];decide
   have hcf:=texts_ContainsFunc 205 (enters_of Try.func205 rfl rfl) (.pointer (some ⟨w.heap.size,0,none⟩)) (fun i=>decide (40 < (l0.getD i ByteArray.empty).size) ||(l0.getD i ByteArray.empty).size != (l0.getD 0 ByteArray.empty).size) ad l0.length c0 (fun i=>.string (l0.getD i ByteArray.empty)) W H9.out hcell
    (fun i hi W1 hd=>by
     obtain ⟨q3,rfl⟩:=hd.out
     exact texts_test w.heap.size ad l0.length c0 HP.out (l0.getD 0 ByteArray.empty) (l0.getD i ByteArray.empty) (hsz i) (hsz 0) _ hc1 (hcell 0 HP.out))
   have HB:=am hb
   clear hb hcell hsz
   refine hcf.mono ?_
   clear hcf
   rintro e w' ⟨rfl,⟨q3,rfl⟩⟩
   go_wp2
   go_ret
   exact ⟨rfl,pb HB.out _⟩
  have e0:l0=[]:=List.eq_nil_of_length_eq_zero d6
  subst e0
  clear hp hr0 HS hc0
  go_enter Try.func177,Try.ntmps177
  go_wp2_with (go_at_call 204;refine (texts_none _ _ _ _).mono ?_;rintro e w' ⟨rfl,rfl⟩)
  go_ret
  exact ⟨rfl,pa (Below.refl _ _) _⟩
 rw [if_neg hs] at h
 cases h
end

def impl_areShards.l0:Nat→Int→List Int→List ByteArray→List (S84)→Int→Int→Option (Bool)
 | 0,_,_,_,_,_,_=>none
 | k+1,x1,x5,x6,x11,x12,x13=>if x13 < x12 then (if 0≤x13 then (if x13 < (x11.length:Int) then (if x5.length < 17592186044416 then (if x6.length < 8796093022208 then (impl_areShards.l0 k x1 (x5 ++ [(rd_T84 x11 x13).f0]) (x6 ++ [(rd_T84 x11 x13).f1]) x11 x12 (wrap64 (x13+1))) else (none)) else (none)) else (none)) else (none)) else ((impl_isIncreasing.f k x5 x1).bind fun t302=>(if t302=true then ((impl_areEqual.f x6).bind fun t303=>(some t303)) else (some false)))
def impl_areShards.f (k:Nat) (l0:List (S84)) (a1:Int):Option (Bool):=impl_areShards.l0 k a1 (([]:List Int)) (([]:List ByteArray)) l0 (l0.length:Int) 0
theorem impl_areShards.mono_l:∀ k,(∀ y0 y1 y2 y3 y4 y5,LeO (impl_areShards.l0 k y0 y1 y2 y3 y4 y5) (impl_areShards.l0 (k+1) y0 y1 y2 y3 y4 y5))
 | 0=>fun _ _ _ _ _ _ r h=>by simp [impl_areShards.l0] at h
 | k+1=>by
  have ih0:=impl_areShards.mono_l k
  intro y0 y1 y2 y3 y4 y5
  unfold impl_areShards.l0
  repeat' first
  | (with_reducible exact ih0 _ _ _ _ _ _)
  | (with_reducible exact impl_isIncreasing.mono _ _ _)
  |(with_reducible exact LeO.refl _)|(with_reducible exact LeO.none _)|(with_reducible refine LeO.ite ?_ ?_)|(with_reducible refine LeO.bind ?_ (fun _=>?_))|exact ih0 _ _ _ _ _ _|exact impl_isIncreasing.mono _ _ _|exact LeO.none _|refine LeO.ite ?_ ?_|refine LeO.bind ?_ (fun _=>?_)
theorem impl_areShards.mono:∀ a0 a1 k,LeO (impl_areShards.f k a0 a1) (impl_areShards.f (k+1) a0 a1):=by
 intro a0 a1 k
 have ih0:=impl_areShards.mono_l k
 unfold impl_areShards.f
 repeat' first
   | (with_reducible exact ih0 _ _ _ _ _ _)
   | (with_reducible exact impl_isIncreasing.mono _ _ _)
   |(with_reducible exact LeO.refl _)|(with_reducible exact LeO.none _)|(with_reducible refine LeO.ite ?_ ?_)|(with_reducible refine LeO.bind ?_ (fun _=>?_))|exact ih0 _ _ _ _ _ _|exact impl_isIncreasing.mono _ _ _|exact LeO.none _|refine LeO.ite ?_ ?_|refine LeO.bind ?_ (fun _=>?_)
theorem impl_areShards.calls (k:Nat) (A0:Option Addr) (c0:Nat) (l0:List (S84)) (a1:Int) (r:Bool) (w:World) (hr0:Kd.C k84 w A0 l0.length l0) (hc0:l0.length≤c0) (h:impl_areShards.f k l0 a1=some r) :
  Calls Try.prog 145 #[.slice A0 l0.length c0, .int .i64 a1] w fun e w'=>e = .returned (.bool r)∧Below w.heap.size w w':=by
 have hu84:=Try.underlying84
 have HR0:=am hr0
 have HC0:=am hc0
 clear hr0 hc0
 have HB:=am (Below.refl w.heap.size w)
 have H:(impl_areShards.l0 k a1 (([]:List Int)) (([]:List ByteArray)) l0 (l0.length:Int) 0)=some r:=h
 clear h
 obtain ⟨y288,hy288⟩:∃ y_:List Int,y_=(([]:List Int)):=⟨_,rfl⟩
 replace H:(impl_areShards.l0 k a1 y288 (([]:List ByteArray)) l0 (l0.length:Int) 0)=some r:=by first|(rw [hy288];with_reducible exact H)|(have H2_:=(Option.bind_some _ _).symm.trans H;rw [hy288];with_reducible exact H2_)|(have H2_:=(Option.bind_some _ _).symm.trans H;with_reducible exact H2_)|with_reducible exact H|(rw [hy288];exact H)|exact H
 have Ny288:=am hy288
 clear hy288
 obtain ⟨y291,hy291⟩:∃ y_:List ByteArray,y_=(([]:List ByteArray)):=⟨_,rfl⟩
 replace H:(impl_areShards.l0 k a1 y288 y291 l0 (l0.length:Int) 0)=some r:=by first|(rw [hy291];with_reducible exact H)|(have H2_:=(Option.bind_some _ _).symm.trans H;rw [hy291];with_reducible exact H2_)|(have H2_:=(Option.bind_some _ _).symm.trans H;with_reducible exact H2_)|with_reducible exact H|(rw [hy291];exact H)|exact H
 have Ny291:=am hy291
 clear hy291
 have H':=am H
 clear H
 go_enter Try.func145,Try.ntmps145
 go_wp2_with (first|((with_reducible refine gate_dst (N:=9) rfl ?_);refine Kd.R_lit (Kd.int .i64) _ 3 ?hg (N:=9) ?hd (xs:=([]:List Int)) (inner:=[]) (ok:=fun _=>True) (okp:=fun _=>True) ?hr ?hp (fun _ hk=>hk) trivial (Below.refl _ _) (Nat.le_refl _) d20 ?_;(case hd=>rfl);(case hg=>rfl);(case hr=>first|(go_simp;done)|(go_simp;rfl));(case hp=>exact (Reps.none _ _));intro v289 w3 ho4 hb hg_ hnew_;clear hg_ hnew_;(first|rw [← Ny288.out] at ho4|(simp only [Int.reduceToNat] at ho4;rw [← Ny288.out] at ho4));have n0_:=am (Kd.R_lower ho4 (pz d0));have n1_:=am (pu d0 hb);clear HB;have HO290:=n0_;have HB:=n1_;clear n0_ n1_;clear hb ho4)|((with_reducible refine gate_dst (N:=10) rfl ?_);refine Kd.R_lit Kd.string _ 9 ?hg (N:=10) ?hd (xs:=([]:List ByteArray)) (inner:=[]) (ok:=fun _=>True) (okp:=fun _=>True) ?hr ?hp (fun _ hk=>hk) trivial (Below.refl _ _) (Nat.le_refl _) d20 ?_;(case hd=>rfl);(case hg=>rfl);(case hr=>first|(go_simp;done)|(go_simp;rfl));(case hp=>exact (Reps.none _ _));intro v292 w5 ho6 hb hg_ hnew_;clear hg_ hnew_;(first|rw [← Ny291.out] at ho6|(simp only [Int.reduceToNat] at ho6;rw [← Ny291.out] at ho6));have n0_:=am (Kd.R_below (by (with_reducible repeat (first|apply Kd.R_alloc|apply Kd.R_drewN|apply Kd.R_drew));exact HO290.out) hb);have n1_:=am (Kd.R_lower ho6 (pz d0));have n2_:=am (pu d0 hb);clear HO290;clear HB;have HO290:=n0_;have HO293:=n1_;have HB:=n2_;clear n0_ n1_ n2_;clear hb ho6))
 go_loopg [5,6,13] k (fun kq v5 v6 v13 w'=>∃ (x5_1:List Int) (x6_1:List ByteArray) (x13_1:Int),v13 = .int .i64 x13_1∧Aside0 (impl_areShards.l0 kq a1 x5_1 x6_1 l0 (l0.length:Int) x13_1=some r)∧Aside0 (kq≤k)∧Aside0 (Kd.R (Kd.int .i64) 3 w' w.heap.size (fun _=>True) v5 x5_1)∧Aside0 (Kd.R Kd.string 9 w' w.heap.size (fun _=>True) v6 x6_1)∧Aside0 (Below w.heap.size w w'))
 case atStart=>exact ⟨(y288),(y291),(0),d2,H',⟨Nat.le_refl _⟩,⟨by (with_reducible repeat (first|apply Kd.R_alloc|apply Kd.R_drewN|apply Kd.R_drew));exact HO290.out⟩,⟨by (with_reducible repeat (first|apply Kd.R_alloc|apply Kd.R_drewN|apply Kd.R_drew));exact HO293.out⟩,⟨d0⟩⟩
 case round =>
  clear H'
  try clear c1
  try clear p2
  obtain ⟨x5_1,x6_1,x13_1,rfl,HA,HK1,HO_5,HO_6,HB⟩:=hrel
  cases gk with
  | zero=>exact absurd HA.out (by simp [impl_areShards.l0])
  | succ k1 =>
   have H:=HA.out
   clear HA
   simp only [impl_areShards.l0] at H
   by_cases c7:x13_1 < (l0.length:Int)
   ·rw [if_pos c7] at H
    have c7b0:decide (x13_1 < (l0.length:Int))=true:=decide_eq_true c7
    clear c7
    by_cases c8:0≤x13_1
    ·rw [if_pos c8] at H
     have c8b0:decide (0≤x13_1)=true:=decide_eq_true c8
     clear c8
     by_cases c9:x13_1 < (l0.length:Int)
     ·rw [if_pos c9] at H
      have c9b0:decide (x13_1 < (l0.length:Int))=true:=decide_eq_true c9
      clear c9
      by_cases c10:x5_1.length < 17592186044416
      ·rw [if_pos c10] at H
       have LMc10:=am c10
       clear c10
       obtain ⟨y296,hy296⟩:∃ y_:List Int,y_=(x5_1 ++ [(rd_T84 l0 x13_1).f0]):=⟨_,rfl⟩
       replace H:(if x6_1.length < 8796093022208 then (impl_areShards.l0 k1 a1 y296 (x6_1 ++ [(rd_T84 l0 x13_1).f1]) l0 (l0.length:Int) (wrap64 (x13_1+1))) else (none))=some r:=by first|(rw [hy296];with_reducible exact H)|(have H2_:=(Option.bind_some _ _).symm.trans H;rw [hy296];with_reducible exact H2_)|(have H2_:=(Option.bind_some _ _).symm.trans H;with_reducible exact H2_)|with_reducible exact H|(rw [hy296];exact H)|exact H
       have Ny296:=am hy296
       clear hy296
       by_cases c11:x6_1.length < 8796093022208
       ·rw [if_pos c11] at H
        have LMc11:=am c11
        clear c11
        obtain ⟨y299,hy299⟩:∃ y_:List ByteArray,y_=(x6_1 ++ [(rd_T84 l0 x13_1).f1]):=⟨_,rfl⟩
        replace H:(impl_areShards.l0 k1 a1 y296 y299 l0 (l0.length:Int) (wrap64 (x13_1+1)))=some r:=by first|(rw [hy299];with_reducible exact H)|(have H2_:=(Option.bind_some _ _).symm.trans H;rw [hy299];with_reducible exact H2_)|(have H2_:=(Option.bind_some _ _).symm.trans H;with_reducible exact H2_)|with_reducible exact H|(rw [hy299];exact H)|exact H
        have Ny299:=am hy299
        clear hy299
        have H':=am H
        clear H
        have p294:0≤(x13_1:Int):=od d1
        have q294:x13_1 < (l0.length:Int):=od d1
        obtain ⟨ad294,e294,hx294_0,hx294_1⟩:=at_T84 HR0.out x13_1 p294 q294
        cases e294
        replace hx294_0:=(HB.out.cell (World.block_lt_of_cell? w _ hx294_0)).trans hx294_0
        replace hx294_1:=(HB.out.cell (World.block_lt_of_cell? w _ hx294_1)).trans hx294_1
        replace p294:=eq_true p294
        replace q294:=eq_true q294
        go_wp2_with (first|((with_reducible refine gate_dst (N:=8) rfl ?_);refine box_event ?hg (N:=8) ?hd (cs:=#[.int .i64 0, .string (⟨#[]⟩:ByteArray)]) (t:=84) ?hr ?_;(case hd=>rfl);(case hg=>rfl);(case hr=>first|(go_simp;done)|(go_simp;rfl));intro gb295 hg w12 hbox hb;have n0_:=am (Kd.R_below d7 hb);have n1_:=am (Kd.R_below d34 hb);have n2_:=am (pu d0 hb);have n3_:=am (hbox);have n4_:=am ((by rw [hg];exact (pz d0):w.heap.size≤gb295));have n5_:=n4_;clear HO_5;clear HO_6;clear HB;have HO_5:=n0_;have HO_6:=n1_;have HB:=n2_;have BK295:=n3_;have GW295:=n4_;have GE295:=n5_;clear n0_ n1_ n2_ n3_ n4_ n5_;clear hb hbox hg;have hcz13_0:w12.cell? ⟨gb295,0,none⟩=some (.int .i64 0):=(blk_cell BK295.out 0).trans rfl;have hcz13_1:w12.cell? ⟨gb295,1,none⟩=some (.string (⟨#[]⟩:ByteArray)):=(blk_cell BK295.out 1).trans rfl;have hfz13_0:=blk_frozen BK295.out 0;have hfz13_1:=blk_frozen BK295.out 1)|((with_reducible refine gate_builtin (b:=.append) (xs:=#[.tmp 17, .tmp 20]) rfl ?_);at_builtin;refine Kd.R_append (Kd.int .i64) (w0:=w) w.heap.size rfl (.tmp 17) (.tmp 20) 25 3 (.int .i64 0) 8 rfl Try.underlying25 info3 rfl d11 d6 u5 x5_1 ((rd_T84 l0 x13_1).f0) [.int .i64 ((rd_T84 l0 x13_1).f0)] (fun _=>True) (fun _=>False) rfl (by first|(go_simp;done)|(go_simp;rfl)) ?aP (fun _ hk=>hk.elim) ?aF ?aO ?aB ?aS ?aL ?_;(case aP=>exact rfl);(case aB=>exact (by repeat (first|(with_reducible first|exact HB.out|apply pa|apply pb|apply pd|refine pt ?_ GE295.out)|exact HB.out)));(case aF=>exact (fun _ _=>trivial));(case aO=>exact (by (with_reducible repeat (first|apply Kd.R_alloc|apply Kd.R_drewN|apply Kd.R_drew));exact Kd.R_mono (Kd.R_far (p:=⟨gb295,1,none⟩) (Kd.R_far (p:=⟨gb295,0,none⟩) (Kd.R_types HO_5.out BK295.out d11) (fun _ hk=>hk.2) (.int .i64 ((rd_T84 l0 x13_1).f0))) (fun _ hk=>hk.2) (.string ((rd_T84 l0 x13_1).f1))) (fun _ hk=>trivial)));(case aS=>exact (pz (by repeat (first|(with_reducible first|exact HB.out|apply pa|apply pb|apply pd|refine pt ?_ GE295.out)|exact HB.out))));(case aL=>have:=LMc10.out;omega);intro v297 w14 ho hb hg hat;rw [← Ny296.out] at ho;have n0_:=am (Kd.R_over' (by (with_reducible repeat (first|apply Kd.R_alloc|apply Kd.R_drewN|apply Kd.R_drew));exact (Kd.R_mono (Kd.R_far (p:=⟨gb295,1,none⟩) (Kd.R_far (p:=⟨gb295,0,none⟩) (Kd.R_types HO_6.out BK295.out d11) (fun _ hk=>hk.2) (.int .i64 ((rd_T84 l0 x13_1).f0))) (fun _ hk=>hk.2) (.string ((rd_T84 l0 x13_1).f1))) (fun _ h_=>h_.1))) (Kd.R_typed (by (with_reducible repeat (first|apply Kd.R_alloc|apply Kd.R_drewN|apply Kd.R_drew));exact (Kd.R_mono (Kd.R_far (p:=⟨gb295,1,none⟩) (Kd.R_far (p:=⟨gb295,0,none⟩) (Kd.R_types HO_5.out BK295.out d11) (fun _ hk=>hk.2) (.int .i64 ((rd_T84 l0 x13_1).f0))) (fun _ hk=>hk.2) (.string ((rd_T84 l0 x13_1).f1))) (fun _ h_=>h_.1)))) d11 hg);have n1_:=am (blk_grown (g:=gb295) (o:=.cells #[.int .i64 ((rd_T84 l0 x13_1).f0), .string ((rd_T84 l0 x13_1).f1)] 84 (0,0)) (by (with_reducible repeat (first|refine qn ?_ _|refine qd ?_|refine qa ?_ _));refine blk_put (cs:=#[.int .i64 ((rd_T84 l0 x13_1).f0), .string (⟨#[]⟩:ByteArray)]) ?_ 1 _ rfl;(with_reducible repeat (first|refine qn ?_ _|refine qd ?_|refine qa ?_ _));refine blk_put (cs:=#[.int .i64 0, .string (⟨#[]⟩:ByteArray)]) ?_ 0 _ rfl;(with_reducible repeat (first|refine qn ?_ _|refine qd ?_|refine qa ?_ _));exact BK295.out) hg (Kd.R_ne HO_5.out BK295.out d11));have n2_:=am (hb);have n3_:=am (ho);clear HO_6;clear BK295;clear HB;clear HO_5;have HO_6:=n0_;have BK295:=n1_;have HB:=n2_;have HO298:=n3_;clear n0_ n1_ n2_ n3_;clear ho hb hg hat;have hcz15_0:w14.cell? ⟨gb295,0,none⟩=some (.int .i64 ((rd_T84 l0 x13_1).f0)):=(blk_cell BK295.out 0).trans rfl;have hcz15_1:w14.cell? ⟨gb295,1,none⟩=some (.string ((rd_T84 l0 x13_1).f1)):=(blk_cell BK295.out 1).trans rfl;have hfz15_0:=blk_frozen BK295.out 0;have hfz15_1:=blk_frozen BK295.out 1)|((with_reducible refine gate_builtin (b:=.append) (xs:=#[.tmp 22, .tmp 25]) rfl ?_);at_builtin;refine Kd.R_append Kd.string (w0:=w) w.heap.size rfl (.tmp 22) (.tmp 25) 22 9 (.string ⟨#[]⟩) 16 rfl Try.underlying22 info9 rfl d11 d6 u6 x6_1 ((rd_T84 l0 x13_1).f1) [.string ((rd_T84 l0 x13_1).f1)] (fun _=>True) (fun _=>False) rfl rfl ?aP (fun _ hk=>hk.elim) ?aF ?aO ?aB ?aS ?aL ?_;(case aP=>exact rfl);(case aB=>exact (by repeat (first|(with_reducible first|exact HB.out|apply pa|apply pb|apply pd|refine pt ?_ GE295.out)|exact HB.out)));(case aF=>exact (fun _ _=>trivial));(case aO=>exact d34);(case aS=>exact (pz (by repeat (first|(with_reducible first|exact HB.out|apply pa|apply pb|apply pd|refine pt ?_ GE295.out)|exact HB.out))));(case aL=>have:=LMc11.out;omega);intro v300 w16 ho hb hg hat;rw [← Ny299.out] at ho;have n0_:=am (blk_grown (g:=gb295) (o:=.cells #[.int .i64 ((rd_T84 l0 x13_1).f0), .string ((rd_T84 l0 x13_1).f1)] 84 (0,0)) (by (with_reducible repeat (first|refine qn ?_ _|refine qd ?_|refine qa ?_ _));exact BK295.out) hg (Kd.R_ne HO_6.out BK295.out d11));have n1_:=am (Kd.R_over' (by (with_reducible repeat (first|apply Kd.R_alloc|apply Kd.R_drewN|apply Kd.R_drew));exact HO298.out) (Kd.R_typed d34) d11 hg);have n2_:=am (hb);have n3_:=am (ho);clear BK295;clear HO298;clear HB;clear HO_6;have BK295:=n0_;have HO298:=n1_;have HB:=n2_;have HO301:=n3_;clear n0_ n1_ n2_ n3_;clear ho hb hg hat))
        go_roundg k1
        case measure=>have:=HK1.out;omega
        case rel=>exact ⟨(y296),(y299),(wrap64 (x13_1+1)),d2,H',⟨d26⟩,⟨by (with_reducible repeat (first|apply Kd.R_alloc|apply Kd.R_drewN|apply Kd.R_drew));exact HO298.out⟩,⟨by (with_reducible repeat (first|apply Kd.R_alloc|apply Kd.R_drewN|apply Kd.R_drew));exact HO301.out⟩,⟨by repeat (first|(with_reducible first|exact HB.out|apply pa|apply pb|apply pd|refine pt ?_ GE295.out)|exact HB.out)⟩⟩
       rw [if_neg c11] at H
       exact absurd H d20
      rw [if_neg c10] at H
      exact absurd H d20
     rw [if_neg c9] at H
     exact absurd H d20
    rw [if_neg c8] at H
    exact absurd H d20
   rw [if_neg c7] at H
   have c7b0:decide (x13_1 < (l0.length:Int))=false:=decide_eq_false c7
   clear c7
   replace H:=Option.bind_eq_some_iff.mp H
   obtain ⟨t302,A170,H⟩:=H
   replace H:(if t302=true then ((impl_areEqual.f x6_1).bind fun t303=>(some t303)) else (some false))=some r:=H
   have A17:=am A170
   clear A170
   by_cases c18:t302=true
   ·subst c18
    have H1:((impl_areEqual.f x6_1).bind fun t303=>(some t303))=some r:=by rw [if_pos rfl] at H;exact H
    clear H
    have H:=H1
    clear H1
    replace H:=Option.bind_eq_some_iff.mp H
    obtain ⟨t303,A190,H⟩:=H
    replace H:(some t303)=some r:=H
    have A19:=am A190
    clear A190
    obtain rfl:=Option.some.inj H
    obtain ⟨Ao20,co20,eo20⟩:=Kd.R_slice HO_5.out
    subst eo20
    go_wp2_with (first|((with_reducible refine gate_callee (f:=96) rfl ?_);refine goesL_ (some 30) rfl rfl Try.func96 d3 rfl #[.slice Ao20 x5_1.length co20, .int .i64 a1] rfl d4 ?_;(with_reducible refine (impl_isIncreasing.calls k1 _ _ x5_1 a1 true _ ?side1 ?side2 A17.out).mono ?_);(case side1=>repeat (first|exact (Kd.R_reads' HO_5.out).2.2|(with_reducible refine Kd.C_alloc ?_ _)|(with_reducible refine Kd.C_drewN ?_ _)|(with_reducible refine Kd.C_drew ?_)));(case side2=>exact (Kd.R_reads' HO_5.out).2.1);rintro e w' ⟨rfl,⟨nd,rfl⟩⟩;refine ⟨_,rfl,?_⟩;obtain ⟨Ao21,co21,eo21⟩:=Kd.R_slice HO_6.out;subst eo21)|(go_at_call 177;(with_reducible refine (impl_areEqual.calls _ _ x6_1 t303 _ ?side1 ?side2 A19.out).mono ?_);(case side1=>repeat (first|exact (Kd.R_reads' HO_6.out).2.2|(with_reducible refine Kd.C_alloc ?_ _)|(with_reducible refine Kd.C_drewN ?_ _)|(with_reducible refine Kd.C_drew ?_)));(case side2=>exact (Kd.R_reads' HO_6.out).2.1);rintro e w22 ⟨rfl,hb⟩;have n0_:=am (Kd.R_below d7 hb);have n1_:=am (Kd.R_below d34 hb);have n2_:=am (pu d0 hb);clear HO_5;clear HO_6;clear HB;have HO_5:=n0_;have HO_6:=n1_;have HB:=n2_;clear n0_ n1_ n2_;(try clear hb);(try clear hb2);(try clear hk);(try clear hi)))
    go_ret
    exact ⟨d5,d0⟩
   replace c18:=Bool.eq_false_iff.mpr c18
   subst c18
   have H1:(some false)=some r:=by rw [if_neg (show ¬ (false=true) by decide)] at H;exact H
   clear H
   have H:=H1
   clear H1
   obtain rfl:=Option.some.inj H
   obtain ⟨Ao23,co23,eo23⟩:=Kd.R_slice HO_5.out
   subst eo23
   go_wp2_with (first|((with_reducible refine gate_callee (f:=96) rfl ?_);refine goesL_ (some 30) rfl rfl Try.func96 d3 rfl #[.slice Ao23 x5_1.length co23, .int .i64 a1] rfl d4 ?_;(with_reducible refine (impl_isIncreasing.calls k1 _ _ x5_1 a1 false _ ?side1 ?side2 A17.out).mono ?_);(case side1=>repeat (first|exact (Kd.R_reads' HO_5.out).2.2|(with_reducible refine Kd.C_alloc ?_ _)|(with_reducible refine Kd.C_drewN ?_ _)|(with_reducible refine Kd.C_drew ?_)));(case side2=>exact (Kd.R_reads' HO_5.out).2.1);rintro e w' ⟨rfl,⟨nd,rfl⟩⟩;refine ⟨_,rfl,?_⟩))
   go_ret
   exact ⟨d5,d0⟩

end Go.Proofs.Ytajikfnpcobnpaa.PFnExactCheckShards
-- HALVED
-- SQUEEZED
-- SQUEEZED2
-- SQUEEZED3
-- SQUEEZED4
-- SQUEEZED5
-- SQUEEZED6
