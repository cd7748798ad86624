-- Laid by a program of this session.
import Derived.Test.YtajikfnpcobnpaaVMendStripeB
import Derived.Test.YtajikfnpcobnpaaPFnExactMendStripex0
import Derived.Test.YtajikfnpcobnpaaPFnExactMendStripex1
namespace Go.Proofs.Ytajikfnpcobnpaa.PFnExactMendStripe
open Go.RowKit Go.Proofs.YtajikfnpcobnpaaW.PrintWords Go.Proofs.YtajikfnpcobnpaaW.PrintLast Go.Proofs.YtajikfnpcobnpaaW.PrintMore Go.Proofs.Ytajikfnpcobnpaa.KitS
attribute [local go_sem] max2_int min2_int max_two min_two max_three min_three max_four min_four   -- for this text's walks alone
set_option linter.unusedVariables false
set_option maxHeartbeats 8000000
set_option maxRecDepth 100000
set_option linter.unusedSimpArgs false

theorem fl_info5:(Try.prog.info? 5).map (fun i=>(i.zero,i.size,i.bytes))=some (some (.int .u8 0),1,1):=by kernel_rfl
theorem fl_info32:(Try.prog.info? 57).map (fun i=>(i.zero,i.size,i.bytes))=some (some (.slice none 0 0),1,24):=by kernel_rfl

mutual
def impl_filled.l0 (E:Nat→Int→Int→Option Int):Nat→Int→List (List Int)→Int→Int→Option ((List (List Int)))
 | 0,_,_,_,_=>none
 | k+1,x1,x7,x12,x13=>if x13 < x12 then (impl_filled.l1 E k x1 x7 x13 (([]:List Int)) x12 x13 x1 0) else (some x7)
def impl_filled.l1 (E:Nat→Int→Int→Option Int):Nat→Int→List (List Int)→Int→List Int→Int→Int→Int→Int→Option ((List (List Int)))
 | 0,_,_,_,_,_,_,_,_=>none
 | k+1,x1,x7,x8,x9,x12,x13,x17,x18=>if x18 < x17 then ((E k x8 x18).bind fun t149=>(if x9.length < 140737488355328 then (impl_filled.l1 E k x1 x7 x8 (x9 ++ [t149]) x12 x13 x17 (wrap64 (x18+1))) else (none))) else (if x7.length < 5864062014805 then (impl_filled.l0 E k x1 (x7 ++ [x9]) x12 (wrap64 (x13+1))) else (none))
end
def impl_filled.f (E:Nat→Int→Int→Option Int) (k:Nat) (a0:Int) (a1:Int):Option ((List (List Int))):=impl_filled.l0 E k a1 (([]:List (List Int))) a0 0
theorem impl_filled.mono_l (E:Nat→Int→Int→Option Int) (hE:∀ i j k,LeO (E k i j) (E (k+1) i j)):∀ k,(∀ y0 y1 y2 y3,LeO (impl_filled.l0 E k y0 y1 y2 y3) (impl_filled.l0 E (k+1) y0 y1 y2 y3))∧(∀ y0 y1 y2 y3 y4 y5 y6 y7,LeO (impl_filled.l1 E k y0 y1 y2 y3 y4 y5 y6 y7) (impl_filled.l1 E (k+1) y0 y1 y2 y3 y4 y5 y6 y7))
 | 0=>⟨fun _ _ _ _ r h=>by simp [impl_filled.l0] at h,fun _ _ _ _ _ _ _ _ r h=>by simp [impl_filled.l1] at h⟩
 | k+1=>by
  obtain ⟨ih0,ih1⟩:=impl_filled.mono_l E hE k
  refine ⟨?_,?_⟩
  ·intro y0 y1 y2 y3
   unfold impl_filled.l0
   repeat' first
   | (with_reducible exact ih0 _ _ _ _)
   | (with_reducible exact ih1 _ _ _ _ _ _ _ _)
   | (with_reducible exact hE _ _ _)
   |(with_reducible exact LeO.refl _)|(with_reducible exact LeO.none _)|(with_reducible refine LeO.ite ?_ ?_)|(with_reducible refine LeO.bind ?_ (fun _=>?_))|exact ih0 _ _ _ _|exact ih1 _ _ _ _ _ _ _ _|exact hE _ _ _|exact LeO.none _|refine LeO.ite ?_ ?_|refine LeO.bind ?_ (fun _=>?_)
  intro y0 y1 y2 y3 y4 y5 y6 y7
  unfold impl_filled.l1
  repeat' first
  | (with_reducible exact ih0 _ _ _ _)
  | (with_reducible exact ih1 _ _ _ _ _ _ _ _)
  | (with_reducible exact hE _ _ _)
  |(with_reducible exact LeO.refl _)|(with_reducible exact LeO.none _)|(with_reducible refine LeO.ite ?_ ?_)|(with_reducible refine LeO.bind ?_ (fun _=>?_))|exact ih0 _ _ _ _|exact ih1 _ _ _ _ _ _ _ _|exact hE _ _ _|exact LeO.none _|refine LeO.ite ?_ ?_|refine LeO.bind ?_ (fun _=>?_)
theorem impl_filled.mono (E:Nat→Int→Int→Option Int) (hE:∀ i j k,LeO (E k i j) (E (k+1) i j)):∀ a0 a1 k,LeO (impl_filled.f E k a0 a1) (impl_filled.f E (k+1) a0 a1):=by
 intro a0 a1 k
 obtain ⟨ih0,ih1⟩:=impl_filled.mono_l E hE k
 unfold impl_filled.f
 repeat' first
   | (with_reducible exact ih0 _ _ _ _)
   | (with_reducible exact ih1 _ _ _ _ _ _ _ _)
   | (with_reducible exact hE _ _ _)
   |(with_reducible exact LeO.refl _)|(with_reducible exact LeO.none _)|(with_reducible refine LeO.ite ?_ ?_)|(with_reducible refine LeO.bind ?_ (fun _=>?_))|exact ih0 _ _ _ _|exact ih1 _ _ _ _ _ _ _ _|exact hE _ _ _|exact LeO.none _|refine LeO.ite ?_ ?_|refine LeO.bind ?_ (fun _=>?_)
theorem impl_filled.calls (E:Nat→Int→Int→Option Int) (g:Nat) (eg:∀ args w,(callFunc g args).run Try.prog w = .ok (.enter g args) w) (lb:Array Value) (k:Nat) (a0:Int) (a1:Int) (r:List (List Int)) (w:World)
  (hE:∀ k i j t W,Below w.heap.size w W→E k i j=some t→Calls Try.prog g (#[.int .i64 i, .int .i64 j] ++ lb) W fun e w'=>e = .returned (.int .u8 t)∧Drawn0 W w') (h:impl_filled.f E k a0 a1=some r) :
  Calls Try.prog 178 #[.int .i64 a0, .int .i64 a1, .func (.func g) #[] lb] w fun e w'=>∃ v0_:Value,e = .returned (v0_)∧Kd.S (Kd.slice 5 (Kd.int .u8)) 57 w' w.heap.size (fun _=>True) v0_ r∧Below w.heap.size w w':=by
 have HX:=am hE
 clear hE
 have HB:=am (Below.refl w.heap.size w)
 have H:=h
 unfold impl_filled.f at H
 clear h
 generalize hy143:(([]:List (List Int)):List (List Int))=y143 at H
 have Ny143:=am hy143.symm
 clear hy143
 have H':=am H
 clear H
 go_enter Try.func178,Try.ntmps178
 go_wp2_with (first|(refine gD 11 ?_;refine Kd.S_lit (Kd.slice 5 (Kd.int .u8)) _ 57 D10 (N:=11) D10 (xs:=([]:List (List Int))) (inner:=[]) (ok:=fun _=>True) (okp:=fun _=>True) D19 D29 (fun _ hk=>hk) trivial (Below.refl _ _) (Nat.le_refl _) D38 ?_;intro v144 w4 ho5 hb hg_ hnew_;clear hg_ hnew_;(first|rw [← Ny143.out] at ho5|(simp only [Int.reduceToNat] at ho5;rw [← Ny143.out] at ho5));have HO145:=am (Kd.S_lower ho5 (pz (yW HB)));replace HB:=yH HB hb;clear hb ho5))
 go_loopg [7,13] k (fun kq v7 v13 w'=>∃ (x7_1:List (List Int)) (x13_1:Int),v13 = .int .i64 x13_1∧Aside0 (impl_filled.l0 E kq a1 x7_1 a0 x13_1=some r)∧Aside0 (kq≤k)∧Aside0 (Kd.S (Kd.slice 5 (Kd.int .u8)) 57 w' w.heap.size (fun _=>True) v7 x7_1)∧Aside0 (Below w.heap.size w w'))
 case atStart=>exact ⟨(y143),(0),D1,H',⟨Nat.le_refl _⟩,⟨yS HO145⟩,⟨yW HB⟩⟩
 case round =>
  clear H'
  try clear p2
  obtain ⟨x7_1,x13_1,rfl,HA,HK1,HO_7,HB⟩:=hrel
  cases gk with
  | zero=>exact absurd HA.out (by simp [impl_filled.l0])
  | succ k1 =>
   have H:=HA.out
   clear HA
   simp only [impl_filled.l0] at H
   by_cases c6:x13_1 < a0
   ·rw [if_pos c6] at H
    have c6b0:=decide_eq_true c6
    clear c6
    generalize hy146:(([]:List Int):List Int)=y146 at H
    have Ny146:=am hy146.symm
    clear hy146
    have H':=am H
    clear H
    go_wp2_with (first|(refine gD 16 ?_;refine Kd.R_lit (Kd.int .u8) _ 5 D10 (N:=16) D10 (xs:=([]:List Int)) (inner:=[]) (ok:=fun _=>True) (okp:=fun _=>True) D19 D29 (fun _ hk=>hk) trivial (Below.refl _ _) (Nat.le_refl _) D38 ?_;intro v147 w7 ho8 hb hg_ hnew_;clear hg_ hnew_;(first|rw [← Ny146.out] at ho8|(simp only [Int.reduceToNat] at ho8;rw [← Ny146.out] at ho8));replace HO_7:=eS HO_7 (Kd.R_base ho8) hb;have HO148:=am (Kd.R_lower ho8 (pz (yW HB)));replace HB:=yH HB hb;clear hb ho8))
    go_loopg [9,18] k1 (fun kq v9 v18 w'=>∃ (x9_2:List Int) (x18_2:Int),v18 = .int .i64 x18_2∧Aside0 (impl_filled.l1 E kq a1 x7_1 x13_1 x9_2 a0 x13_1 a1 x18_2=some r)∧Aside0 (kq≤k1)∧Aside0 (Kd.S (Kd.slice 5 (Kd.int .u8)) 57 w' w.heap.size (fun k_=>some k_ ≠ (v9:Value).ownBlock) u7 x7_1)∧Aside0 (Kd.R (Kd.int .u8) 5 w' w.heap.size (fun _=>True) v9 x9_2)∧Aside0 (Below w.heap.size w w'))
    case atStart=>exact ⟨(y146),(0),D1,H',⟨Nat.le_refl _⟩,⟨by refine sS ?_;exact Kd.S_mono HO_7.out (fun _ hk=>hk.2)⟩,⟨yR HO148⟩,⟨yW HB⟩⟩
    case round =>
     clear H'
     try clear p2
     try clear c6
     try clear c6b0
     try clear c8
     try clear p2
     obtain ⟨x9_2,x18_2,rfl,HA,HK2,HO_7,HO_9,HB⟩:=hrel
     cases gk with
     | zero=>exact absurd HA.out (by simp [impl_filled.l1])
     | succ k2 =>
      have H:=HA.out
      clear HA
      simp only [impl_filled.l1] at H
      by_cases c9:x18_2 < a1
      ·rw [if_pos c9] at H
       have c9b0:=decide_eq_true c9
       clear c9
       obtain ⟨t149,A10,H⟩:=yo H
       obtain ⟨c11,H⟩:=yi H
       have LMc11:=am c11
       clear c11
       generalize hy150:(x9_2 ++ [t149]:List Int)=y150 at H
       have Ny150:=am hy150.symm
       clear hy150
       have H':=am H
       clear H
       go_wp2_with (first|(go_at_fn g;refine (HX.out _ _ _ _ _ (by (repeat (first|(with_reducible first|exact HB.out|apply pa|apply pb|apply pd)|exact HB.out))) A10.out).mono ?_;rintro e w' ⟨rfl,⟨nd,rfl⟩⟩)|((with_reducible refine gate_builtin (b:=.append) (xs:=#[.tmp 21, .tmp 26]) rfl ?_);at_builtin;refine Kd.R_append (Kd.int .u8) (w0:=w) w.heap.size rfl (.tmp 21) (.tmp 26) 57 5 (.int .u8 0) 1 rfl Try.underlying57 fl_info5 rfl D6 D8 u9 x9_2 t149 [.int .u8 t149] (fun _=>True) (fun _=>False) rfl rfl D65 (fun _ hk=>hk.elim) D20 (by exact (yR HO_9)) D50 D25 (by have:=LMc11.out;omega) ?_;intro v151 w12 ho hb hg hat;rw [← Ny150.out] at ho;have n0_:=am (Kd.S_after (ok:=(fun _=>True)) (by refine sS ?_;exact Kd.S_mono HO_7.out (fun _ hk=>⟨trivial,hk⟩)) hg hat);have n1_:=am (hb);have n2_:=am (ho);clear HO_7 HB HO_9;have HO_7:=n0_;have HB:=n1_;have HO152:=n2_;clear n0_ n1_ n2_ ho hb hg hat))
       go_roundg k2
       case measure=>have:=HK1.out;have:=HK2.out;omega
       case rel=>exact ⟨(y150),(wrap64 (x18_2+1)),D1,H',⟨D39⟩,⟨by refine sS ?_;exact Kd.S_mono HO_7.out (fun _ hk=>hk.2)⟩,⟨yR HO152⟩,⟨yW HB⟩⟩
      rw [if_neg c9] at H
      have c9b0:=decide_eq_false c9
      clear c9
      obtain ⟨c13,H⟩:=yi H
      have LMc13:=am c13
      clear c13
      generalize hy153:(x7_1 ++ [x9_2]:List (List Int))=y153 at H
      have Ny153:=am hy153.symm
      clear hy153
      have H':=am H
      clear H
      obtain ⟨Ao15,co15,eo15⟩:=Kd.R_slice HO_9.out
      subst eo15
      go_wp2_with (first|((with_reducible refine gate_builtin (b:=.append) (xs:=#[.tmp 29, .tmp 31]) rfl ?_);at_builtin;refine Kd.S_append (Kd.slice 5 (Kd.int .u8)) (w0:=w) w.heap.size rfl (.tmp 29) (.tmp 31) 37 57 (.slice none 0 0) 24 rfl Try.underlying37 fl_info32 rfl D6 D8 u7 x7_1 x9_2 [.slice Ao15 x9_2.length co15] (fun _=>True) (fun k_=>some k_=(.slice Ao15 x9_2.length co15:Value).ownBlock) rfl rfl (by exact Kd.M_row (Kd.R_mono (Kd.R_tight rfl (Kd.R_mono (ok':=fun k_=>((fun _=>True)) k_∧some k_ ≠ (u7:Value).ownBlock) (Kd.R_apart' (HO_9.out) (Kd.S_typed HO_7.out) D6) (fun k_ hk=>⟨trivial,hk.2⟩))) (fun _ h_=>h_))) (fun k_ hk_=>((Kd.R_mono (ok':=fun k_=>((fun _=>True)) k_∧some k_ ≠ (u7:Value).ownBlock) (Kd.R_apart' (HO_9.out) (Kd.S_typed HO_7.out) D6) (fun k_ hk=>⟨trivial,hk.2⟩))).1 k_ hk_.symm) D20 (by exact (by refine sS ?_;exact Kd.S_mono HO_7.out (fun k_ hk=>⟨trivial,fun e_=>hk e_⟩))) D50 D25 (by have:=LMc13.out;omega) ?_;intro v154 w14 ho hb hg hat;rw [← Ny153.out] at ho;have n0_:=am (hb);have n1_:=am (ho);clear HB HO_7 HO_9;have HB:=n0_;have HO155:=n1_;clear n0_ n1_ ho hb hg hat))
      go_roundg k2
      case measure=>have:=HK1.out;have:=HK2.out;omega
      case rel=>exact ⟨(y153),(wrap64 (x13_1+1)),D1,H',⟨D39⟩,⟨yS HO155⟩,⟨yW HB⟩⟩
   rw [if_neg c6] at H
   have c6b0:=decide_eq_false c6
   clear c6
   obtain rfl:=Option.some.inj H
   go_wp2
   go_ret
   exact ⟨_,D3,yS HO_7,yW HB⟩

def impl_parityRows.E (k:Nat) (i j:Int):Option Int:=(impl_power.f k 3 i).bind fun t=>impl_power.f k t j
theorem impl_parityRows.mono_E:∀ i j k,LeO (impl_parityRows.E k i j) (impl_parityRows.E (k+1) i j):=fun i j k=>LeO.bind (impl_power.mono _ _ _) (fun _=>impl_power.mono _ _ _)
def impl_parityRows.f (k:Nat) (a0:Int) (a1:Int):Option ((List (List Int))):=impl_filled.f impl_parityRows.E k a1 a0
theorem impl_parityRows.mono:∀ a0 a1 k,LeO (impl_parityRows.f k a0 a1) (impl_parityRows.f (k+1) a0 a1):=fun a0 a1 k=>impl_filled.mono _ impl_parityRows.mono_E a1 a0 k
set_option maxHeartbeats 4000000 in
theorem impl_parityRows.elem (k:Nat) (i j t:Int) (W:World) (h:impl_parityRows.E k i j=some t) :
  Calls Try.prog 179 #[.int .i64 i, .int .i64 j] W fun e w'=>e = .returned (.int .u8 t)∧Drawn0 W w':=by
 obtain ⟨x,hx,hy⟩:=Option.bind_eq_some_iff.mp h
 have HX:=am hx
 have HY:=am hy
 clear hx hy h
 go_enter Try.func179,Try.ntmps179
 go_wp2_with (go_at_call 180;first|(with_reducible refine (impl_power.calls k 3 i x _ HX.out).mono ?_;rintro e w' ⟨rfl,⟨q,rfl⟩⟩)|(with_reducible refine (impl_power.calls k x j t _ HY.out).mono ?_;rintro e w' ⟨rfl,⟨q2,rfl⟩⟩))
 go_ret
 exact ⟨rfl,⟨_,rfl⟩⟩
set_option maxHeartbeats 4000000 in
theorem impl_parityRows.calls (k:Nat) (a0:Int) (a1:Int) (r:List (List Int)) (w:World) (h:impl_parityRows.f k a0 a1=some r) :
  Calls Try.prog 98 #[.int .i64 a0, .int .i64 a1] w fun e w'=>∃ v0_:Value,e = .returned (v0_)∧Kd.S (Kd.slice 5 (Kd.int .u8)) 57 w' w.heap.size (fun _=>True) v0_ r∧Below w.heap.size w w':=by
 have HF:=am (impl_filled.calls impl_parityRows.E 179 (enters_of Try.func179 rfl rfl) #[] k a1 a0 r w (fun k i j t W _ hE=>impl_parityRows.elem k i j t W hE) h)
 clear h
 go_enter Try.func98,Try.ntmps98
 go_wp2_with (go_at_call 178;refine HF.out.mono ?_;rintro e w' ⟨v,rfl,hS,hB⟩)
 go_ret
 exact ⟨_,rfl,hS,hB⟩

def impl_added.l0:Nat→List Int→List Int→List Int→Int→Int→Option (List Int)
 | 0,_,_,_,_,_=>none
 | k+1,x1,x5,x9,x10,x11=>if x11 < x10 then (if 0≤x11 then (if x11 < (x9.length:Int) then (if x11 < (x1.length:Int) then (if x5.length < 140737488355328 then (impl_added.l0 k x1 (x5 ++ [Go.bits .xor .u8 (rd x9 x11) (rd x1 x11)]) x9 x10 (wrap64 (x11+1))) else (none)) else (none)) else (none)) else (none)) else (some x5)
def impl_added.f (k:Nat) (l0:List Int) (l1:List Int):Option (List Int):=impl_added.l0 k l1 (([]:List Int)) l0 (l0.length:Int) 0
theorem impl_added.mono_l:∀ k,(∀ y0 y1 y2 y3 y4,LeO (impl_added.l0 k y0 y1 y2 y3 y4) (impl_added.l0 (k+1) y0 y1 y2 y3 y4))
 | 0=>fun _ _ _ _ _ r h=>by simp [impl_added.l0] at h
 | k+1=>by
  have ih0:=impl_added.mono_l k
  intro y0 y1 y2 y3 y4
  unfold impl_added.l0
  exact mm
theorem impl_added.mono:∀ a0 a1 k,LeO (impl_added.f k a0 a1) (impl_added.f (k+1) a0 a1):=by
 intro a0 a1 k
 have ih0:=impl_added.mono_l k
 unfold impl_added.f
 exact mm
theorem impl_added.calls (k:Nat) (A0:Option Addr) (c0:Nat) (l0:List Int) (A1:Option Addr) (c1:Nat) (l1:List Int) (r:List Int) (w:World) (hr0:Kd.C (Kd.int .u8) w A0 l0.length l0) (hc0:l0.length≤c0) (hr1:Kd.C (Kd.int .u8) w A1 l1.length l1) (hc1:l1.length≤c1) (h:impl_added.f k l0 l1=some r) :
  Calls Try.prog 131 #[.slice A0 l0.length c0, .slice A1 l1.length c1] w fun e w'=>∃ v0_:Value,e = .returned (v0_)∧Kd.R (Kd.int .u8) 5 w' w.heap.size (fun _=>True) v0_ r∧Below w.heap.size w w':=by
 have HR0:=am hr0
 have HC0:=am hc0
 clear hr0 hc0
 have HR1:=am hr1
 have HC1:=am hc1
 clear hr1 hc1
 have HB:=am (Below.refl w.heap.size w)
 have H:=h
 unfold impl_added.f at H
 clear h
 generalize hy257:(([]:List Int):List Int)=y257 at H
 have Ny257:=am hy257.symm
 clear hy257
 have H':=am H
 clear H
 go_enter Try.func131,Try.ntmps131
 go_wp2_with (first|(refine gD 8 ?_;refine Kd.R_lit (Kd.int .u8) _ 5 D10 (N:=8) D10 (xs:=([]:List Int)) (inner:=[]) (ok:=fun _=>True) (okp:=fun _=>True) D19 D29 (fun _ hk=>hk) trivial (Below.refl _ _) (Nat.le_refl _) D38 ?_;intro v258 w3 ho4 hb hg_ hnew_;clear hg_ hnew_;(first|rw [← Ny257.out] at ho4|(simp only [Int.reduceToNat] at ho4;rw [← Ny257.out] at ho4));have HO259:=am (Kd.R_lower ho4 (pz (yW HB)));replace HB:=yH HB hb;clear hb ho4))
 go_loopg [5,11] k (fun kq v5 v11 w'=>∃ (x5_1:List Int) (x11_1:Int),v11 = .int .i64 x11_1∧Aside0 (impl_added.l0 kq l1 x5_1 l0 (l0.length:Int) x11_1=some r)∧Aside0 (kq≤k)∧Aside0 (Kd.R (Kd.int .u8) 5 w' w.heap.size (fun _=>True) v5 x5_1)∧Aside0 (Below w.heap.size w w'))
 case atStart=>exact ⟨(y257),(0),D1,H',⟨Nat.le_refl _⟩,⟨yR HO259⟩,⟨yW HB⟩⟩
 case round =>
  clear H'
  try clear c1
  try clear p2
  obtain ⟨x5_1,x11_1,rfl,HA,HK1,HO_5,HB⟩:=hrel
  cases gk with
  | zero=>exact absurd HA.out (by simp [impl_added.l0])
  | succ k1 =>
   have H:=HA.out
   clear HA
   simp only [impl_added.l0] at H
   by_cases c5:x11_1 < (l0.length:Int)
   ·rw [if_pos c5] at H
    have c5b0:=decide_eq_true c5
    clear c5
    obtain ⟨c6,H⟩:=yi H
    have c6b0:=decide_eq_true c6
    clear c6
    obtain ⟨c7,H⟩:=yi H
    have c7b0:=decide_eq_true c7
    clear c7
    obtain ⟨c8,H⟩:=yi H
    have c8b0:=decide_eq_true c8
    clear c8
    obtain ⟨c9,H⟩:=yi H
    have LMc9:=am c9
    clear c9
    generalize hy262:(x5_1 ++ [Go.bits .xor .u8 (rd l0 x11_1) (rd l1 x11_1)]:List Int)=y262 at H
    have Ny262:=am hy262.symm
    clear hy262
    have H':=am H
    clear H
    have p260:0≤(x11_1:Int):=od D0
    have q260:x11_1 < (l0.length:Int):=od D0
    obtain ⟨ad260,e260,hx260_0⟩:=Kd.at_int HR0.out x11_1 p260 q260
    cases e260
    replace hx260_0:=(HB.out.cell (World.block_lt_of_cell? w _ hx260_0)).trans hx260_0
    replace p260:=eq_true p260
    replace q260:=eq_true q260
    have p261:0≤(x11_1:Int):=od D0
    have q261:x11_1 < (l1.length:Int):=od D0
    obtain ⟨ad261,e261,hx261_0⟩:=Kd.at_int HR1.out x11_1 p261 q261
    cases e261
    replace hx261_0:=(HB.out.cell (World.block_lt_of_cell? w _ hx261_0)).trans hx261_0
    replace p261:=eq_true p261
    replace q261:=eq_true q261
    go_wp2_with (first|((with_reducible refine gate_builtin (b:=.append) (xs:=#[.tmp 16, .tmp 23]) rfl ?_);at_builtin;refine Kd.R_append (Kd.int .u8) (w0:=w) w.heap.size rfl (.tmp 16) (.tmp 23) 57 5 (.int .u8 0) 1 rfl Try.underlying57 info5 rfl D6 D8 u5 x5_1 (Go.bits .xor .u8 (rd l0 x11_1) (rd l1 x11_1)) [.int .u8 (Go.bits .xor .u8 (rd l0 x11_1) (rd l1 x11_1))] (fun _=>True) (fun _=>False) rfl rfl D65 (fun _ hk=>hk.elim) D20 (by exact (yR HO_5)) D50 D25 (by have:=LMc9.out;omega) ?_;intro v263 w10 ho hb hg hat;rw [← Ny262.out] at ho;have n0_:=am (hb);have n1_:=am (ho);clear HB HO_5;have HB:=n0_;have HO264:=n1_;clear n0_ n1_ ho hb hg hat))
    go_roundg k1
    case measure=>have:=HK1.out;omega
    case rel=>exact ⟨(y262),(wrap64 (x11_1+1)),D1,H',⟨D17⟩,⟨yR HO264⟩,⟨yW HB⟩⟩
   rw [if_neg c5] at H
   have c5b0:=decide_eq_false c5
   clear c5
   obtain rfl:=Option.some.inj H
   go_wp2
   go_ret
   exact ⟨_,D3,yR HO_5,yW HB⟩

section
open Go.Proofs.Ytajikfnpcobnpaa.KitW
def impl_sumOf.f (k:Nat) (a0:ByteArray) (a1:ByteArray):Option ByteArray:=if a0.size≤140737488355328∧a1.size≤140737488355328 then (impl_added.f k (bytesOf a0) (bytesOf a1)).bind fun t=>some (strOfNums t) else none
theorem impl_sumOf.mono:∀ a0 a1 k,LeO (impl_sumOf.f k a0 a1) (impl_sumOf.f (k+1) a0 a1):=by
 intro a0 a1 k
 unfold impl_sumOf.f
 exact LeO.ite (LeO.bind (impl_added.mono _ _ _) (fun _=>LeO.refl _)) (LeO.refl _)
set_option maxHeartbeats 4000000 in
theorem impl_sumOf.calls (k:Nat) (a0:ByteArray) (a1:ByteArray) (r:ByteArray) (w:World) (h:impl_sumOf.f k a0 a1=some r) :
  Calls Try.prog 181 #[.string a0, .string a1] w fun e w'=>e = .returned (.string r)∧Below w.heap.size w w':=by
 unfold impl_sumOf.f at h
 by_cases hs:a0.size≤140737488355328∧a1.size≤140737488355328
 ·rw [if_pos hs] at h
  replace h:=Option.bind_eq_some_iff.mp h
  obtain ⟨x,hx,h⟩:=h
  obtain rfl:=Option.some.inj h
  clear h
  have HX:=am hx
  have HS:=am hs
  clear hx hs
  have kb0:=fun W=>print_bytes (P:=Try.prog) 9 57 5 Try.underlying9 Try.underlying57 Try.underlying5 a0 W
  have kb1:=fun W=>print_bytes (P:=Try.prog) 9 57 5 Try.underlying9 Try.underlying57 Try.underlying5 a1 W
  go_enter Try.func181,Try.ntmps181
  go_wp2_with fail
  have e0:=bytesOf_length a0
  have e1:=bytesOf_length a1
  rw [← e0,← e1]
  have h0:=bytes_C w 5 a0 HS.out.1
  have h1:=bytes_C (Lib.bytesWorld w 5 a0) 5 a1 HS.out.2
  have b1:Below (Lib.bytesWorld w 5 a0).heap.size (Lib.bytesWorld w 5 a0) (Lib.bytesWorld (Lib.bytesWorld w 5 a0) 5 a1):=bytes_below (Below.refl _ _) (Nat.le_refl _) _ _
  have b0:Below w.heap.size w (Lib.bytesWorld w 5 a0):=bytes_below (Below.refl _ _) (Nat.le_refl _) _ _
  refine (impl_added.calls k _ _ (bytesOf a0) _ _ (bytesOf a1) x _ (Kd.C_below h0 b1) ?c0 h1 ?c1 HX.out).mono ?_
  case c0=>rw [e0];exact bytes_cap _ _ _
  case c1=>rw [e1];exact bytes_cap _ _ _
  clear kb0 kb1 e0 e1 h0 h1
  rintro e w' ⟨v0,rfl,ho,hb⟩
  have HO:=am ho
  have HB:=am (pu b0 (below_weaken b1 b1.size hb):Below w.heap.size w w')
  clear ho hb b0 b1
  obtain ⟨A,c,rfl⟩:=Kd.R_slice HO.out
  have hk:=Kd.C_string (P:=Try.prog) Try.underlying57 Try.underlying5 Try.underlying9 (Kd.R_reads' HO.out).2.2 (src:=57) (dst:=9) (c:=c)
  go_wp2
  go_ret
  exact ⟨rfl,HB.out⟩
 rw [if_neg hs] at h
 cases h
end

def impl_sums.l0:Nat→List ByteArray→List ByteArray→List ByteArray→Int→Int→Option (List ByteArray)
 | 0,_,_,_,_,_=>none
 | k+1,x1,x5,x9,x10,x11=>if x11 < x10 then (if 0≤x11 then (if x11 < (x9.length:Int) then (if x11 < (x1.length:Int) then ((impl_sumOf.f k (rdOf ByteArray.empty x9 x11) (rdOf ByteArray.empty x1 x11)).bind fun t270=>(if x5.length < 8796093022208 then (impl_sums.l0 k x1 (x5 ++ [t270]) x9 x10 (wrap64 (x11+1))) else (none))) else (none)) else (none)) else (none)) else (some x5)
def impl_sums.f (k:Nat) (l0:List ByteArray) (l1:List ByteArray):Option (List ByteArray):=impl_sums.l0 k l1 (([]:List ByteArray)) l0 (l0.length:Int) 0
theorem impl_sums.mono_l:∀ k,(∀ y0 y1 y2 y3 y4,LeO (impl_sums.l0 k y0 y1 y2 y3 y4) (impl_sums.l0 (k+1) y0 y1 y2 y3 y4))
 | 0=>fun _ _ _ _ _ r h=>by simp [impl_sums.l0] at h
 | k+1=>by
  have ih0:=impl_sums.mono_l k
  intro y0 y1 y2 y3 y4
  unfold impl_sums.l0
  exact mm
theorem impl_sums.mono:∀ a0 a1 k,LeO (impl_sums.f k a0 a1) (impl_sums.f (k+1) a0 a1):=by
 intro a0 a1 k
 have ih0:=impl_sums.mono_l k
 unfold impl_sums.f
 exact mm
theorem impl_sums.calls (k:Nat) (A0:Option Addr) (c0:Nat) (l0:List ByteArray) (A1:Option Addr) (c1:Nat) (l1:List ByteArray) (r:List ByteArray) (w:World) (hr0:Kd.C Kd.string w A0 l0.length l0) (hc0:l0.length≤c0) (hr1:Kd.C Kd.string w A1 l1.length l1) (hc1:l1.length≤c1) (h:impl_sums.f k l0 l1=some r) :
  Calls Try.prog 99 #[.slice A0 l0.length c0, .slice A1 l1.length c1] w fun e w'=>∃ v0_:Value,e = .returned (v0_)∧Kd.R Kd.string 9 w' w.heap.size (fun _=>True) v0_ r∧Below w.heap.size w w':=by
 have HR0:=am hr0
 have HC0:=am hc0
 clear hr0 hc0
 have HR1:=am hr1
 have HC1:=am hc1
 clear hr1 hc1
 have HB:=am (Below.refl w.heap.size w)
 have H:=h
 unfold impl_sums.f at H
 clear h
 generalize hy265:(([]:List ByteArray):List ByteArray)=y265 at H
 have Ny265:=am hy265.symm
 clear hy265
 have H':=am H
 clear H
 go_enter Try.func99,Try.ntmps99
 go_wp2_with (first|(refine gD 8 ?_;refine Kd.R_lit Kd.string _ 9 D10 (N:=8) D10 (xs:=([]:List ByteArray)) (inner:=[]) (ok:=fun _=>True) (okp:=fun _=>True) D19 D29 (fun _ hk=>hk) trivial (Below.refl _ _) (Nat.le_refl _) D38 ?_;intro v266 w3 ho4 hb hg_ hnew_;clear hg_ hnew_;(first|rw [← Ny265.out] at ho4|(simp only [Int.reduceToNat] at ho4;rw [← Ny265.out] at ho4));have HO267:=am (Kd.R_lower ho4 (pz (yW HB)));replace HB:=yH HB hb;clear hb ho4))
 go_loopg [5,11] k (fun kq v5 v11 w'=>∃ (x5_1:List ByteArray) (x11_1:Int),v11 = .int .i64 x11_1∧Aside0 (impl_sums.l0 kq l1 x5_1 l0 (l0.length:Int) x11_1=some r)∧Aside0 (kq≤k)∧Aside0 (Kd.R Kd.string 9 w' w.heap.size (fun _=>True) v5 x5_1)∧Aside0 (Below w.heap.size w w'))
 case atStart=>exact ⟨(y265),(0),D1,H',⟨Nat.le_refl _⟩,⟨yR HO267⟩,⟨yW HB⟩⟩
 case round =>
  clear H'
  try clear c1
  try clear p2
  obtain ⟨x5_1,x11_1,rfl,HA,HK1,HO_5,HB⟩:=hrel
  cases gk with
  | zero=>exact absurd HA.out (by simp [impl_sums.l0])
  | succ k1 =>
   have H:=HA.out
   clear HA
   simp only [impl_sums.l0] at H
   by_cases c5:x11_1 < (l0.length:Int)
   ·rw [if_pos c5] at H
    have c5b0:=decide_eq_true c5
    clear c5
    obtain ⟨c6,H⟩:=yi H
    have c6b0:=decide_eq_true c6
    clear c6
    obtain ⟨c7,H⟩:=yi H
    have c7b0:=decide_eq_true c7
    clear c7
    obtain ⟨c8,H⟩:=yi H
    have c8b0:=decide_eq_true c8
    clear c8
    obtain ⟨t270,A9,H⟩:=yo H
    obtain ⟨c10,H⟩:=yi H
    have LMc10:=am c10
    clear c10
    generalize hy271:(x5_1 ++ [t270]:List ByteArray)=y271 at H
    have Ny271:=am hy271.symm
    clear hy271
    have H':=am H
    clear H
    have p268:0≤(x11_1:Int):=od D0
    have q268:x11_1 < (l0.length:Int):=od D0
    obtain ⟨ad268,e268,hx268_0⟩:=Kd.at_string HR0.out x11_1 p268 q268
    cases e268
    replace hx268_0:=(HB.out.cell (World.block_lt_of_cell? w _ hx268_0)).trans hx268_0
    replace p268:=eq_true p268
    replace q268:=eq_true q268
    have p269:0≤(x11_1:Int):=od D0
    have q269:x11_1 < (l1.length:Int):=od D0
    obtain ⟨ad269,e269,hx269_0⟩:=Kd.at_string HR1.out x11_1 p269 q269
    cases e269
    replace hx269_0:=(HB.out.cell (World.block_lt_of_cell? w _ hx269_0)).trans hx269_0
    replace p269:=eq_true p269
    replace q269:=eq_true q269
    go_wp2_with (first|(refine gC 181 ?_;refine gM (some 22) Try.func181 (args:=#[.string (rdOf ByteArray.empty l0 x11_1), .string (rdOf ByteArray.empty l1 x11_1)]) (impl_sumOf.calls k1 (rdOf ByteArray.empty l0 x11_1) (rdOf ByteArray.empty l1 x11_1) t270 _ A9.out) ?_;rintro e w11 ⟨rfl,hb⟩;refine ⟨_,rfl,?_⟩;replace HO_5:=bR HO_5 hb;replace HB:=yH HB hb;clear hb)|((with_reducible refine gate_builtin (b:=.append) (xs:=#[.tmp 16, .tmp 23]) rfl ?_);at_builtin;refine Kd.R_append Kd.string (w0:=w) w.heap.size rfl (.tmp 16) (.tmp 23) 22 9 (.string ⟨#[]⟩) 16 rfl Try.underlying22 info9 rfl D6 D8 u5 x5_1 t270 [.string t270] (fun _=>True) (fun _=>False) rfl rfl D65 (fun _ hk=>hk.elim) D20 (by exact (yR HO_5)) D50 D25 (by have:=LMc10.out;omega) ?_;intro v272 w12 ho hb hg hat;rw [← Ny271.out] at ho;have n0_:=am (hb);have n1_:=am (ho);clear HB HO_5;have HB:=n0_;have HO273:=n1_;clear n0_ n1_ ho hb hg hat))
    go_roundg k1
    case measure=>have:=HK1.out;omega
    case rel=>exact ⟨(y271),(wrap64 (x11_1+1)),D1,H',⟨D17⟩,⟨yR HO273⟩,⟨yW HB⟩⟩
   rw [if_neg c5] at H
   have c5b0:=decide_eq_false c5
   clear c5
   obtain rfl:=Option.some.inj H
   go_wp2
   go_ret
   exact ⟨_,D3,yR HO_5,yW HB⟩

def impl_scaled.l0:Nat→Int→List Int→List Int→Int→Int→Option (List Int)
 | 0,_,_,_,_,_=>none
 | k+1,x0,x5,x9,x10,x11=>if x11 < x10 then (if 0≤x11 then (if x11 < (x9.length:Int) then ((impl_Times.f k x0 (rd x9 x11)).bind fun t278=>(if x5.length < 140737488355328 then (impl_scaled.l0 k x0 (x5 ++ [t278]) x9 x10 (wrap64 (x11+1))) else (none))) else (none)) else (none)) else (some x5)
def impl_scaled.f (k:Nat) (a0:Int) (l1:List Int):Option (List Int):=impl_scaled.l0 k a0 (([]:List Int)) l1 (l1.length:Int) 0
theorem impl_scaled.mono_l:∀ k,(∀ y0 y1 y2 y3 y4,LeO (impl_scaled.l0 k y0 y1 y2 y3 y4) (impl_scaled.l0 (k+1) y0 y1 y2 y3 y4))
 | 0=>fun _ _ _ _ _ r h=>by simp [impl_scaled.l0] at h
 | k+1=>by
  have ih0:=impl_scaled.mono_l k
  intro y0 y1 y2 y3 y4
  unfold impl_scaled.l0
  exact mm
theorem impl_scaled.mono:∀ a0 a1 k,LeO (impl_scaled.f k a0 a1) (impl_scaled.f (k+1) a0 a1):=by
 intro a0 a1 k
 have ih0:=impl_scaled.mono_l k
 unfold impl_scaled.f
 exact mm
theorem impl_scaled.calls (k:Nat) (a0:Int) (A1:Option Addr) (c1:Nat) (l1:List Int) (r:List Int) (w:World) (hr1:Kd.C (Kd.int .u8) w A1 l1.length l1) (hc1:l1.length≤c1) (h:impl_scaled.f k a0 l1=some r) :
  Calls Try.prog 132 #[.int .u8 a0, .slice A1 l1.length c1] w fun e w'=>∃ v0_:Value,e = .returned (v0_)∧Kd.R (Kd.int .u8) 5 w' w.heap.size (fun _=>True) v0_ r∧Below w.heap.size w w':=by
 have HR1:=am hr1
 have HC1:=am hc1
 clear hr1 hc1
 have HB:=am (Below.refl w.heap.size w)
 have H:=h
 unfold impl_scaled.f at H
 clear h
 generalize hy274:(([]:List Int):List Int)=y274 at H
 have Ny274:=am hy274.symm
 clear hy274
 have H':=am H
 clear H
 go_enter Try.func132,Try.ntmps132
 go_wp2_with (first|(refine gD 8 ?_;refine Kd.R_lit (Kd.int .u8) _ 5 D10 (N:=8) D10 (xs:=([]:List Int)) (inner:=[]) (ok:=fun _=>True) (okp:=fun _=>True) D19 D29 (fun _ hk=>hk) trivial (Below.refl _ _) (Nat.le_refl _) D38 ?_;intro v275 w3 ho4 hb hg_ hnew_;clear hg_ hnew_;(first|rw [← Ny274.out] at ho4|(simp only [Int.reduceToNat] at ho4;rw [← Ny274.out] at ho4));have HO276:=am (Kd.R_lower ho4 (pz (yW HB)));replace HB:=yH HB hb;clear hb ho4))
 go_loopg [5,11] k (fun kq v5 v11 w'=>∃ (x5_1:List Int) (x11_1:Int),v11 = .int .i64 x11_1∧Aside0 (impl_scaled.l0 kq a0 x5_1 l1 (l1.length:Int) x11_1=some r)∧Aside0 (kq≤k)∧Aside0 (Kd.R (Kd.int .u8) 5 w' w.heap.size (fun _=>True) v5 x5_1)∧Aside0 (Below w.heap.size w w'))
 case atStart=>exact ⟨(y274),(0),D1,H',⟨Nat.le_refl _⟩,⟨yR HO276⟩,⟨yW HB⟩⟩
 case round =>
  clear H'
  try clear c1
  try clear p2
  obtain ⟨x5_1,x11_1,rfl,HA,HK1,HO_5,HB⟩:=hrel
  cases gk with
  | zero=>exact absurd HA.out (by simp [impl_scaled.l0])
  | succ k1 =>
   have H:=HA.out
   clear HA
   simp only [impl_scaled.l0] at H
   by_cases c5:x11_1 < (l1.length:Int)
   ·rw [if_pos c5] at H
    have c5b0:=decide_eq_true c5
    clear c5
    obtain ⟨c6,H⟩:=yi H
    have c6b0:=decide_eq_true c6
    clear c6
    obtain ⟨c7,H⟩:=yi H
    have c7b0:=decide_eq_true c7
    clear c7
    obtain ⟨t278,A8,H⟩:=yo H
    obtain ⟨c9,H⟩:=yi H
    have LMc9:=am c9
    clear c9
    generalize hy279:(x5_1 ++ [t278]:List Int)=y279 at H
    have Ny279:=am hy279.symm
    clear hy279
    have H':=am H
    clear H
    have p277:0≤(x11_1:Int):=od D0
    have q277:x11_1 < (l1.length:Int):=od D0
    obtain ⟨ad277,e277,hx277_0⟩:=Kd.at_int HR1.out x11_1 p277 q277
    cases e277
    replace hx277_0:=(HB.out.cell (World.block_lt_of_cell? w _ hx277_0)).trans hx277_0
    replace p277:=eq_true p277
    replace q277:=eq_true q277
    go_wp2_with (first|(refine gC 192 ?_;refine gM (some 18) Try.func192 (args:=#[.int .u8 a0, .int .u8 (rd l1 x11_1)]) (impl_Times.calls k1 a0 (rd l1 x11_1) t278 _ A8.out) ?_;rintro e w' ⟨rfl,⟨nd,rfl⟩⟩;refine ⟨_,rfl,?_⟩)|((with_reducible refine gate_builtin (b:=.append) (xs:=#[.tmp 15, .tmp 19]) rfl ?_);at_builtin;refine Kd.R_append (Kd.int .u8) (w0:=w) w.heap.size rfl (.tmp 15) (.tmp 19) 57 5 (.int .u8 0) 1 rfl Try.underlying57 info5 rfl D6 D8 u5 x5_1 t278 [.int .u8 t278] (fun _=>True) (fun _=>False) rfl rfl D65 (fun _ hk=>hk.elim) D20 (by exact (yR HO_5)) D50 D25 (by have:=LMc9.out;omega) ?_;intro v280 w10 ho hb hg hat;rw [← Ny279.out] at ho;have n0_:=am (hb);have n1_:=am (ho);clear HB HO_5;have HB:=n0_;have HO281:=n1_;clear n0_ n1_ ho hb hg hat))
    go_roundg k1
    case measure=>have:=HK1.out;omega
    case rel=>exact ⟨(y279),(wrap64 (x11_1+1)),D1,H',⟨D17⟩,⟨yR HO281⟩,⟨yW HB⟩⟩
   rw [if_neg c5] at H
   have c5b0:=decide_eq_false c5
   clear c5
   obtain rfl:=Option.some.inj H
   go_wp2
   go_ret
   exact ⟨_,D3,yR HO_5,yW HB⟩

section
open Go.Proofs.Ytajikfnpcobnpaa.KitW
def impl_timesOf.f (k:Nat) (a0:Int) (a1:ByteArray):Option ByteArray:=if a1.size≤140737488355328 then (impl_scaled.f k a0 (bytesOf a1)).bind fun t=>some (strOfNums t) else none
theorem impl_timesOf.mono:∀ a0 a1 k,LeO (impl_timesOf.f k a0 a1) (impl_timesOf.f (k+1) a0 a1):=by
 intro a0 a1 k
 unfold impl_timesOf.f
 exact LeO.ite (LeO.bind (impl_scaled.mono _ _ _) (fun _=>LeO.refl _)) (LeO.refl _)
set_option maxHeartbeats 4000000 in
theorem impl_timesOf.calls (k:Nat) (a0:Int) (a1:ByteArray) (r:ByteArray) (w:World) (h:impl_timesOf.f k a0 a1=some r) :
  Calls Try.prog 182 #[.int .u8 a0, .string a1] w fun e w'=>e = .returned (.string r)∧Below w.heap.size w w':=by
 unfold impl_timesOf.f at h
 by_cases hs:a1.size≤140737488355328
 ·rw [if_pos hs] at h
  replace h:=Option.bind_eq_some_iff.mp h
  obtain ⟨x,hx,h⟩:=h
  obtain rfl:=Option.some.inj h
  clear h
  have HX:=am hx
  have HS:=am hs
  clear hx hs
  have kb1:=fun W=>print_bytes (P:=Try.prog) 9 57 5 Try.underlying9 Try.underlying57 Try.underlying5 a1 W
  go_enter Try.func182,Try.ntmps182
  go_wp2_with fail
  have e1:=bytesOf_length a1
  rw [← e1]
  have h1:=bytes_C w 5 a1 HS.out
  have b0:Below w.heap.size w (Lib.bytesWorld w 5 a1):=bytes_below (Below.refl _ _) (Nat.le_refl _) _ _
  refine (impl_scaled.calls k a0 _ _ (bytesOf a1) x _ h1 ?c1 HX.out).mono ?_
  case c1=>rw [e1];exact bytes_cap _ _ _
  clear kb1 e1 h1
  rintro e w' ⟨v0,rfl,ho,hb⟩
  have HO:=am ho
  have HB:=am (pu b0 hb:Below w.heap.size w w')
  clear ho hb b0
  obtain ⟨A,c,rfl⟩:=Kd.R_slice HO.out
  have hk:=Kd.C_string (P:=Try.prog) Try.underlying57 Try.underlying5 Try.underlying9 (Kd.R_reads' HO.out).2.2 (src:=57) (dst:=9) (c:=c)
  go_wp2
  go_ret
  exact ⟨rfl,HB.out⟩
 rw [if_neg hs] at h
 cases h
end

end Go.Proofs.Ytajikfnpcobnpaa.PFnExactMendStripe
-- SHRUNK
-- HALVED
-- SQUEEZED
-- SQUEEZED2
-- SQUEEZED3
-- SQUEEZED4
-- SQUEEZED5
-- SQUEEZED6
