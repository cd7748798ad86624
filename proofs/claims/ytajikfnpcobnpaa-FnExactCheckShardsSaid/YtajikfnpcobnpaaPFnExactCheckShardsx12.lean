-- Laid by a program of this session.
import Derived.Test.YtajikfnpcobnpaaPFnExactCheckShardsx0
import Derived.Test.YtajikfnpcobnpaaPFnExactCheckShardsx1
namespace Go.Proofs.Ytajikfnpcobnpaa.PFnExactCheckShards
open Go.RowKit Go.Proofs.YtajikfnpcobnpaaW.PrintWords Go.Proofs.YtajikfnpcobnpaaW.PrintLast Go.Proofs.YtajikfnpcobnpaaW.PrintMore
attribute [local go_sem] max2_int min2_int max_two min_two max_three min_three max_four min_four   -- for this text's walks alone
set_option linter.unusedVariables false
set_option maxHeartbeats 8000000
set_option maxRecDepth 100000
set_option linter.unusedSimpArgs false

def impl_added.l0:Nat→List Int→List Int→List Int→Int→Int→Option (List Int)
 | 0,_,_,_,_,_=>none
 | k+1,x1,x5,x9,x10,x11=>if x11 < x10 then (if 0≤x11 then (if x11 < (x9.length:Int) then (if x11 < (x1.length:Int) then (if x5.length < 140737488355328 then (impl_added.l0 k x1 (x5 ++ [Go.bits .xor .u8 (rd x9 x11) (rd x1 x11)]) x9 x10 (wrap64 (x11+1))) else (none)) else (none)) else (none)) else (none)) else (some x5)
def impl_added.f (k:Nat) (l0:List Int) (l1:List Int):Option (List Int):=impl_added.l0 k l1 (([]:List Int)) l0 (l0.length:Int) 0
theorem impl_added.mono_l:∀ k,(∀ y0 y1 y2 y3 y4,LeO (impl_added.l0 k y0 y1 y2 y3 y4) (impl_added.l0 (k+1) y0 y1 y2 y3 y4))
 | 0=>fun _ _ _ _ _ r h=>by simp [impl_added.l0] at h
 | k+1=>by
  have ih0:=impl_added.mono_l k
  intro y0 y1 y2 y3 y4
  unfold impl_added.l0
  repeat' first
  | (with_reducible exact ih0 _ _ _ _ _)
  |(with_reducible exact LeO.refl _)|(with_reducible exact LeO.none _)|(with_reducible refine LeO.ite ?_ ?_)|(with_reducible refine LeO.bind ?_ (fun _=>?_))|exact ih0 _ _ _ _ _|exact LeO.none _|refine LeO.ite ?_ ?_|refine LeO.bind ?_ (fun _=>?_)
theorem impl_added.mono:∀ a0 a1 k,LeO (impl_added.f k a0 a1) (impl_added.f (k+1) a0 a1):=by
 intro a0 a1 k
 have ih0:=impl_added.mono_l k
 unfold impl_added.f
 repeat' first
   | (with_reducible exact ih0 _ _ _ _ _)
   |(with_reducible exact LeO.refl _)|(with_reducible exact LeO.none _)|(with_reducible refine LeO.ite ?_ ?_)|(with_reducible refine LeO.bind ?_ (fun _=>?_))|exact ih0 _ _ _ _ _|exact LeO.none _|refine LeO.ite ?_ ?_|refine LeO.bind ?_ (fun _=>?_)
theorem impl_added.calls (k:Nat) (A0:Option Addr) (c0:Nat) (l0:List Int) (A1:Option Addr) (c1:Nat) (l1:List Int) (r:List Int) (w:World) (hr0:Kd.C (Kd.int .u8) w A0 l0.length l0) (hc0:l0.length≤c0) (hr1:Kd.C (Kd.int .u8) w A1 l1.length l1) (hc1:l1.length≤c1) (h:impl_added.f k l0 l1=some r) :
  Calls Try.prog 131 #[.slice A0 l0.length c0, .slice A1 l1.length c1] w fun e w'=>∃ v0_:Value,e = .returned (v0_)∧Kd.R (Kd.int .u8) 5 w' w.heap.size (fun _=>True) v0_ r∧Below w.heap.size w w':=by
 have HR0:=am hr0
 have HC0:=am hc0
 clear hr0 hc0
 have HR1:=am hr1
 have HC1:=am hc1
 clear hr1 hc1
 have HB:=am (Below.refl w.heap.size w)
 have H:(impl_added.l0 k l1 (([]:List Int)) l0 (l0.length:Int) 0)=some r:=h
 clear h
 obtain ⟨y304,hy304⟩:∃ y_:List Int,y_=(([]:List Int)):=⟨_,rfl⟩
 replace H:(impl_added.l0 k l1 y304 l0 (l0.length:Int) 0)=some r:=by first|(rw [hy304];with_reducible exact H)|(have H2_:=(Option.bind_some _ _).symm.trans H;rw [hy304];with_reducible exact H2_)|(have H2_:=(Option.bind_some _ _).symm.trans H;with_reducible exact H2_)|with_reducible exact H|(rw [hy304];exact H)|exact H
 have Ny304:=am hy304
 clear hy304
 have H':=am H
 clear H
 go_enter Try.func131,Try.ntmps131
 go_wp2_with (first|((with_reducible refine gate_dst (N:=8) rfl ?_);refine Kd.R_lit (Kd.int .u8) _ 5 ?hg (N:=8) ?hd (xs:=([]:List Int)) (inner:=[]) (ok:=fun _=>True) (okp:=fun _=>True) ?hr ?hp (fun _ hk=>hk) trivial (Below.refl _ _) (Nat.le_refl _) d20 ?_;(case hd=>rfl);(case hg=>rfl);(case hr=>first|(go_simp;done)|(go_simp;rfl));(case hp=>exact (Reps.none _ _));intro v305 w3 ho4 hb hg_ hnew_;clear hg_ hnew_;(first|rw [← Ny304.out] at ho4|(simp only [Int.reduceToNat] at ho4;rw [← Ny304.out] at ho4));have n0_:=am (Kd.R_lower ho4 (pz d0));have n1_:=am (pu d0 hb);clear HB;have HO306:=n0_;have HB:=n1_;clear n0_ n1_;clear hb ho4))
 go_loopg [5,11] k (fun kq v5 v11 w'=>∃ (x5_1:List Int) (x11_1:Int),v11 = .int .i64 x11_1∧Aside0 (impl_added.l0 kq l1 x5_1 l0 (l0.length:Int) x11_1=some r)∧Aside0 (kq≤k)∧Aside0 (Kd.R (Kd.int .u8) 5 w' w.heap.size (fun _=>True) v5 x5_1)∧Aside0 (Below w.heap.size w w'))
 case atStart=>exact ⟨(y304),(0),d2,H',⟨Nat.le_refl _⟩,⟨by (with_reducible repeat (first|apply Kd.R_alloc|apply Kd.R_drewN|apply Kd.R_drew));exact HO306.out⟩,⟨d0⟩⟩
 case round =>
  clear H'
  try clear c1
  try clear p2
  obtain ⟨x5_1,x11_1,rfl,HA,HK1,HO_5,HB⟩:=hrel
  cases gk with
  | zero=>exact absurd HA.out (by simp [impl_added.l0])
  | succ k1 =>
   have H:=HA.out
   clear HA
   simp only [impl_added.l0] at H
   by_cases c5:x11_1 < (l0.length:Int)
   ·rw [if_pos c5] at H
    have c5b0:decide (x11_1 < (l0.length:Int))=true:=decide_eq_true c5
    clear c5
    by_cases c6:0≤x11_1
    ·rw [if_pos c6] at H
     have c6b0:decide (0≤x11_1)=true:=decide_eq_true c6
     clear c6
     by_cases c7:x11_1 < (l0.length:Int)
     ·rw [if_pos c7] at H
      have c7b0:decide (x11_1 < (l0.length:Int))=true:=decide_eq_true c7
      clear c7
      by_cases c8:x11_1 < (l1.length:Int)
      ·rw [if_pos c8] at H
       have c8b0:decide (x11_1 < (l1.length:Int))=true:=decide_eq_true c8
       clear c8
       by_cases c9:x5_1.length < 140737488355328
       ·rw [if_pos c9] at H
        have LMc9:=am c9
        clear c9
        obtain ⟨y309,hy309⟩:∃ y_:List Int,y_=(x5_1 ++ [Go.bits .xor .u8 (rd l0 x11_1) (rd l1 x11_1)]):=⟨_,rfl⟩
        replace H:(impl_added.l0 k1 l1 y309 l0 (l0.length:Int) (wrap64 (x11_1+1)))=some r:=by first|(rw [hy309];with_reducible exact H)|(have H2_:=(Option.bind_some _ _).symm.trans H;rw [hy309];with_reducible exact H2_)|(have H2_:=(Option.bind_some _ _).symm.trans H;with_reducible exact H2_)|with_reducible exact H|(rw [hy309];exact H)|exact H
        have Ny309:=am hy309
        clear hy309
        have H':=am H
        clear H
        have p307:0≤(x11_1:Int):=od d1
        have q307:x11_1 < (l0.length:Int):=od d1
        obtain ⟨ad307,e307,hx307_0⟩:=Kd.at_int HR0.out x11_1 p307 q307
        cases e307
        replace hx307_0:=(HB.out.cell (World.block_lt_of_cell? w _ hx307_0)).trans hx307_0
        replace p307:=eq_true p307
        replace q307:=eq_true q307
        have p308:0≤(x11_1:Int):=od d1
        have q308:x11_1 < (l1.length:Int):=od d1
        obtain ⟨ad308,e308,hx308_0⟩:=Kd.at_int HR1.out x11_1 p308 q308
        cases e308
        replace hx308_0:=(HB.out.cell (World.block_lt_of_cell? w _ hx308_0)).trans hx308_0
        replace p308:=eq_true p308
        replace q308:=eq_true q308
        go_wp2_with (first|((with_reducible refine gate_builtin (b:=.append) (xs:=#[.tmp 16, .tmp 23]) rfl ?_);at_builtin;refine Kd.R_append (Kd.int .u8) (w0:=w) w.heap.size rfl (.tmp 16) (.tmp 23) 57 5 (.int .u8 0) 1 rfl Try.underlying57 info5 rfl d11 d6 u5 x5_1 (Go.bits .xor .u8 (rd l0 x11_1) (rd l1 x11_1)) [.int .u8 (Go.bits .xor .u8 (rd l0 x11_1) (rd l1 x11_1))] (fun _=>True) (fun _=>False) rfl rfl ?aP (fun _ hk=>hk.elim) ?aF ?aO ?aB ?aS ?aL ?_;(case aP=>exact rfl);(case aB=>exact d0);(case aF=>exact (fun _ _=>trivial));(case aO=>exact d7);(case aS=>exact (pz d0));(case aL=>have:=LMc9.out;omega);intro v310 w10 ho hb hg hat;rw [← Ny309.out] at ho;have n0_:=am (hb);have n1_:=am (ho);clear HB;clear HO_5;have HB:=n0_;have HO311:=n1_;clear n0_ n1_;clear ho hb hg hat))
        go_roundg k1
        case measure=>have:=HK1.out;omega
        case rel=>exact ⟨(y309),(wrap64 (x11_1+1)),d2,H',⟨d26⟩,⟨by (with_reducible repeat (first|apply Kd.R_alloc|apply Kd.R_drewN|apply Kd.R_drew));exact HO311.out⟩,⟨d0⟩⟩
       rw [if_neg c9] at H
       exact absurd H d20
      rw [if_neg c8] at H
      exact absurd H d20
     rw [if_neg c7] at H
     exact absurd H d20
    rw [if_neg c6] at H
    exact absurd H d20
   rw [if_neg c5] at H
   have c5b0:decide (x11_1 < (l0.length:Int))=false:=decide_eq_false c5
   clear c5
   obtain rfl:=Option.some.inj H
   go_wp2
   go_ret
   exact ⟨_,d5,d7,d0⟩

section
open Go.Proofs.Ytajikfnpcobnpaa.KitW
def impl_sumOf.f (k:Nat) (a0:ByteArray) (a1:ByteArray):Option ByteArray:=if a0.size≤140737488355328∧a1.size≤140737488355328 then (impl_added.f k (bytesOf a0) (bytesOf a1)).bind fun t=>some (strOfNums t) else none
theorem impl_sumOf.mono:∀ a0 a1 k,LeO (impl_sumOf.f k a0 a1) (impl_sumOf.f (k+1) a0 a1):=by
 intro a0 a1 k
 unfold impl_sumOf.f
 exact LeO.ite (LeO.bind (impl_added.mono _ _ _) (fun _=>LeO.refl _)) (LeO.refl _)
set_option maxHeartbeats 4000000 in
theorem impl_sumOf.calls (k:Nat) (a0:ByteArray) (a1:ByteArray) (r:ByteArray) (w:World) (h:impl_sumOf.f k a0 a1=some r) :
  Calls Try.prog 181 #[.string a0, .string a1] w fun e w'=>e = .returned (.string r)∧Below w.heap.size w w':=by
 unfold impl_sumOf.f at h
 by_cases hs:a0.size≤140737488355328∧a1.size≤140737488355328
 ·rw [if_pos hs] at h
  replace h:=Option.bind_eq_some_iff.mp h
  obtain ⟨x,hx,h⟩:=h
  obtain rfl:=Option.some.inj h
  clear h
  have HX:=am hx
  have HS:=am hs
  clear hx hs
  have kb0:=fun W=>print_bytes (P:=Try.prog) 9 57 5 Try.underlying9 Try.underlying57 Try.underlying5 a0 W
  have kb1:=fun W=>print_bytes (P:=Try.prog) 9 57 5 Try.underlying9 Try.underlying57 Try.underlying5 a1 W
  go_enter Try.func181,Try.ntmps181
  go_wp2_with fail
  have e0:=bytesOf_length a0
  have e1:=bytesOf_length a1
  rw [← e0,← e1]
  have h0:=bytes_C w 5 a0 HS.out.1
  have h1:=bytes_C (Lib.bytesWorld w 5 a0) 5 a1 HS.out.2
  have b1:Below (Lib.bytesWorld w 5 a0).heap.size (Lib.bytesWorld w 5 a0) (Lib.bytesWorld (Lib.bytesWorld w 5 a0) 5 a1):=bytes_below (Below.refl _ _) (Nat.le_refl _) _ _
  have b0:Below w.heap.size w (Lib.bytesWorld w 5 a0):=bytes_below (Below.refl _ _) (Nat.le_refl _) _ _
  refine (impl_added.calls k _ _ (bytesOf a0) _ _ (bytesOf a1) x _ (Kd.C_below h0 b1) ?c0 h1 ?c1 HX.out).mono ?_
  case c0=>rw [e0];exact bytes_cap _ _ _
  case c1=>rw [e1];exact bytes_cap _ _ _
  clear kb0 kb1 e0 e1 h0 h1
  rintro e w' ⟨v0,rfl,ho,hb⟩
  have HO:=am ho
  have HB:=am (pu b0 (below_weaken b1 b1.size hb):Below w.heap.size w w')
  clear ho hb b0 b1
  obtain ⟨A,c,rfl⟩:=Kd.R_slice HO.out
  have hk:=Kd.C_string (P:=Try.prog) Try.underlying57 Try.underlying5 Try.underlying9 (Kd.R_reads' HO.out).2.2 (src:=57) (dst:=9) (c:=c)
  go_wp2
  go_ret
  exact ⟨rfl,HB.out⟩
 rw [if_neg hs] at h
 cases h
end

def impl_scaled.l0:Nat→Int→List Int→List Int→Int→Int→Option (List Int)
 | 0,_,_,_,_,_=>none
 | k+1,x0,x5,x9,x10,x11=>if x11 < x10 then (if 0≤x11 then (if x11 < (x9.length:Int) then ((impl_Times.f k x0 (rd x9 x11)).bind fun t316=>(if x5.length < 140737488355328 then (impl_scaled.l0 k x0 (x5 ++ [t316]) x9 x10 (wrap64 (x11+1))) else (none))) else (none)) else (none)) else (some x5)
def impl_scaled.f (k:Nat) (a0:Int) (l1:List Int):Option (List Int):=impl_scaled.l0 k a0 (([]:List Int)) l1 (l1.length:Int) 0
theorem impl_scaled.mono_l:∀ k,(∀ y0 y1 y2 y3 y4,LeO (impl_scaled.l0 k y0 y1 y2 y3 y4) (impl_scaled.l0 (k+1) y0 y1 y2 y3 y4))
 | 0=>fun _ _ _ _ _ r h=>by simp [impl_scaled.l0] at h
 | k+1=>by
  have ih0:=impl_scaled.mono_l k
  intro y0 y1 y2 y3 y4
  unfold impl_scaled.l0
  repeat' first
  | (with_reducible exact ih0 _ _ _ _ _)
  | (with_reducible exact impl_Times.mono _ _ _)
  |(with_reducible exact LeO.refl _)|(with_reducible exact LeO.none _)|(with_reducible refine LeO.ite ?_ ?_)|(with_reducible refine LeO.bind ?_ (fun _=>?_))|exact ih0 _ _ _ _ _|exact impl_Times.mono _ _ _|exact LeO.none _|refine LeO.ite ?_ ?_|refine LeO.bind ?_ (fun _=>?_)
theorem impl_scaled.mono:∀ a0 a1 k,LeO (impl_scaled.f k a0 a1) (impl_scaled.f (k+1) a0 a1):=by
 intro a0 a1 k
 have ih0:=impl_scaled.mono_l k
 unfold impl_scaled.f
 repeat' first
   | (with_reducible exact ih0 _ _ _ _ _)
   | (with_reducible exact impl_Times.mono _ _ _)
   |(with_reducible exact LeO.refl _)|(with_reducible exact LeO.none _)|(with_reducible refine LeO.ite ?_ ?_)|(with_reducible refine LeO.bind ?_ (fun _=>?_))|exact ih0 _ _ _ _ _|exact impl_Times.mono _ _ _|exact LeO.none _|refine LeO.ite ?_ ?_|refine LeO.bind ?_ (fun _=>?_)
theorem impl_scaled.calls (k:Nat) (a0:Int) (A1:Option Addr) (c1:Nat) (l1:List Int) (r:List Int) (w:World) (hr1:Kd.C (Kd.int .u8) w A1 l1.length l1) (hc1:l1.length≤c1) (h:impl_scaled.f k a0 l1=some r) :
  Calls Try.prog 132 #[.int .u8 a0, .slice A1 l1.length c1] w fun e w'=>∃ v0_:Value,e = .returned (v0_)∧Kd.R (Kd.int .u8) 5 w' w.heap.size (fun _=>True) v0_ r∧Below w.heap.size w w':=by
 have HR1:=am hr1
 have HC1:=am hc1
 clear hr1 hc1
 have HB:=am (Below.refl w.heap.size w)
 have H:(impl_scaled.l0 k a0 (([]:List Int)) l1 (l1.length:Int) 0)=some r:=h
 clear h
 obtain ⟨y312,hy312⟩:∃ y_:List Int,y_=(([]:List Int)):=⟨_,rfl⟩
 replace H:(impl_scaled.l0 k a0 y312 l1 (l1.length:Int) 0)=some r:=by first|(rw [hy312];with_reducible exact H)|(have H2_:=(Option.bind_some _ _).symm.trans H;rw [hy312];with_reducible exact H2_)|(have H2_:=(Option.bind_some _ _).symm.trans H;with_reducible exact H2_)|with_reducible exact H|(rw [hy312];exact H)|exact H
 have Ny312:=am hy312
 clear hy312
 have H':=am H
 clear H
 go_enter Try.func132,Try.ntmps132
 go_wp2_with (first|((with_reducible refine gate_dst (N:=8) rfl ?_);refine Kd.R_lit (Kd.int .u8) _ 5 ?hg (N:=8) ?hd (xs:=([]:List Int)) (inner:=[]) (ok:=fun _=>True) (okp:=fun _=>True) ?hr ?hp (fun _ hk=>hk) trivial (Below.refl _ _) (Nat.le_refl _) d20 ?_;(case hd=>rfl);(case hg=>rfl);(case hr=>first|(go_simp;done)|(go_simp;rfl));(case hp=>exact (Reps.none _ _));intro v313 w3 ho4 hb hg_ hnew_;clear hg_ hnew_;(first|rw [← Ny312.out] at ho4|(simp only [Int.reduceToNat] at ho4;rw [← Ny312.out] at ho4));have n0_:=am (Kd.R_lower ho4 (pz d0));have n1_:=am (pu d0 hb);clear HB;have HO314:=n0_;have HB:=n1_;clear n0_ n1_;clear hb ho4))
 go_loopg [5,11] k (fun kq v5 v11 w'=>∃ (x5_1:List Int) (x11_1:Int),v11 = .int .i64 x11_1∧Aside0 (impl_scaled.l0 kq a0 x5_1 l1 (l1.length:Int) x11_1=some r)∧Aside0 (kq≤k)∧Aside0 (Kd.R (Kd.int .u8) 5 w' w.heap.size (fun _=>True) v5 x5_1)∧Aside0 (Below w.heap.size w w'))
 case atStart=>exact ⟨(y312),(0),d2,H',⟨Nat.le_refl _⟩,⟨by (with_reducible repeat (first|apply Kd.R_alloc|apply Kd.R_drewN|apply Kd.R_drew));exact HO314.out⟩,⟨d0⟩⟩
 case round =>
  clear H'
  try clear c1
  try clear p2
  obtain ⟨x5_1,x11_1,rfl,HA,HK1,HO_5,HB⟩:=hrel
  cases gk with
  | zero=>exact absurd HA.out (by simp [impl_scaled.l0])
  | succ k1 =>
   have H:=HA.out
   clear HA
   simp only [impl_scaled.l0] at H
   by_cases c5:x11_1 < (l1.length:Int)
   ·rw [if_pos c5] at H
    have c5b0:decide (x11_1 < (l1.length:Int))=true:=decide_eq_true c5
    clear c5
    by_cases c6:0≤x11_1
    ·rw [if_pos c6] at H
     have c6b0:decide (0≤x11_1)=true:=decide_eq_true c6
     clear c6
     by_cases c7:x11_1 < (l1.length:Int)
     ·rw [if_pos c7] at H
      have c7b0:decide (x11_1 < (l1.length:Int))=true:=decide_eq_true c7
      clear c7
      replace H:=Option.bind_eq_some_iff.mp H
      obtain ⟨t316,A80,H⟩:=H
      replace H:(if x5_1.length < 140737488355328 then (impl_scaled.l0 k1 a0 (x5_1 ++ [t316]) l1 (l1.length:Int) (wrap64 (x11_1+1))) else (none))=some r:=H
      have A8:=am A80
      clear A80
      by_cases c9:x5_1.length < 140737488355328
      ·rw [if_pos c9] at H
       have LMc9:=am c9
       clear c9
       obtain ⟨y317,hy317⟩:∃ y_:List Int,y_=(x5_1 ++ [t316]):=⟨_,rfl⟩
       replace H:(impl_scaled.l0 k1 a0 y317 l1 (l1.length:Int) (wrap64 (x11_1+1)))=some r:=by first|(rw [hy317];with_reducible exact H)|(have H2_:=(Option.bind_some _ _).symm.trans H;rw [hy317];with_reducible exact H2_)|(have H2_:=(Option.bind_some _ _).symm.trans H;with_reducible exact H2_)|with_reducible exact H|(rw [hy317];exact H)|exact H
       have Ny317:=am hy317
       clear hy317
       have H':=am H
       clear H
       have p315:0≤(x11_1:Int):=od d1
       have q315:x11_1 < (l1.length:Int):=od d1
       obtain ⟨ad315,e315,hx315_0⟩:=Kd.at_int HR1.out x11_1 p315 q315
       cases e315
       replace hx315_0:=(HB.out.cell (World.block_lt_of_cell? w _ hx315_0)).trans hx315_0
       replace p315:=eq_true p315
       replace q315:=eq_true q315
       go_wp2_with (first|((with_reducible refine gate_callee (f:=192) rfl ?_);refine goesL_ (some 18) rfl rfl Try.func192 d3 rfl #[.int .u8 a0, .int .u8 (rd l1 x11_1)] rfl d4 ?_;(with_reducible refine (impl_Times.calls k1 a0 (rd l1 x11_1) t316 _ A8.out).mono ?_);rintro e w' ⟨rfl,⟨nd,rfl⟩⟩;refine ⟨_,rfl,?_⟩)|((with_reducible refine gate_builtin (b:=.append) (xs:=#[.tmp 15, .tmp 19]) rfl ?_);at_builtin;refine Kd.R_append (Kd.int .u8) (w0:=w) w.heap.size rfl (.tmp 15) (.tmp 19) 57 5 (.int .u8 0) 1 rfl Try.underlying57 info5 rfl d11 d6 u5 x5_1 t316 [.int .u8 t316] (fun _=>True) (fun _=>False) rfl rfl ?aP (fun _ hk=>hk.elim) ?aF ?aO ?aB ?aS ?aL ?_;(case aP=>exact rfl);(case aB=>exact d0);(case aF=>exact (fun _ _=>trivial));(case aO=>exact d7);(case aS=>exact (pz d0));(case aL=>have:=LMc9.out;omega);intro v318 w10 ho hb hg hat;rw [← Ny317.out] at ho;have n0_:=am (hb);have n1_:=am (ho);clear HB;clear HO_5;have HB:=n0_;have HO319:=n1_;clear n0_ n1_;clear ho hb hg hat))
       go_roundg k1
       case measure=>have:=HK1.out;omega
       case rel=>exact ⟨(y317),(wrap64 (x11_1+1)),d2,H',⟨d26⟩,⟨by (with_reducible repeat (first|apply Kd.R_alloc|apply Kd.R_drewN|apply Kd.R_drew));exact HO319.out⟩,⟨d0⟩⟩
      rw [if_neg c9] at H
      exact absurd H d20
     rw [if_neg c7] at H
     exact absurd H d20
    rw [if_neg c6] at H
    exact absurd H d20
   rw [if_neg c5] at H
   have c5b0:decide (x11_1 < (l1.length:Int))=false:=decide_eq_false c5
   clear c5
   obtain rfl:=Option.some.inj H
   go_wp2
   go_ret
   exact ⟨_,d5,d7,d0⟩

section
open Go.Proofs.Ytajikfnpcobnpaa.KitW
def impl_timesOf.f (k:Nat) (a0:Int) (a1:ByteArray):Option ByteArray:=if a1.size≤140737488355328 then (impl_scaled.f k a0 (bytesOf a1)).bind fun t=>some (strOfNums t) else none
theorem impl_timesOf.mono:∀ a0 a1 k,LeO (impl_timesOf.f k a0 a1) (impl_timesOf.f (k+1) a0 a1):=by
 intro a0 a1 k
 unfold impl_timesOf.f
 exact LeO.ite (LeO.bind (impl_scaled.mono _ _ _) (fun _=>LeO.refl _)) (LeO.refl _)
set_option maxHeartbeats 4000000 in
theorem impl_timesOf.calls (k:Nat) (a0:Int) (a1:ByteArray) (r:ByteArray) (w:World) (h:impl_timesOf.f k a0 a1=some r) :
  Calls Try.prog 182 #[.int .u8 a0, .string a1] w fun e w'=>e = .returned (.string r)∧Below w.heap.size w w':=by
 unfold impl_timesOf.f at h
 by_cases hs:a1.size≤140737488355328
 ·rw [if_pos hs] at h
  replace h:=Option.bind_eq_some_iff.mp h
  obtain ⟨x,hx,h⟩:=h
  obtain rfl:=Option.some.inj h
  clear h
  have HX:=am hx
  have HS:=am hs
  clear hx hs
  have kb1:=fun W=>print_bytes (P:=Try.prog) 9 57 5 Try.underlying9 Try.underlying57 Try.underlying5 a1 W
  go_enter Try.func182,Try.ntmps182
  go_wp2_with fail
  have e1:=bytesOf_length a1
  rw [← e1]
  have h1:=bytes_C w 5 a1 HS.out
  have b0:Below w.heap.size w (Lib.bytesWorld w 5 a1):=bytes_below (Below.refl _ _) (Nat.le_refl _) _ _
  refine (impl_scaled.calls k a0 _ _ (bytesOf a1) x _ h1 ?c1 HX.out).mono ?_
  case c1=>rw [e1];exact bytes_cap _ _ _
  clear kb1 e1 h1
  rintro e w' ⟨v0,rfl,ho,hb⟩
  have HO:=am ho
  have HB:=am (pu b0 hb:Below w.heap.size w w')
  clear ho hb b0
  obtain ⟨A,c,rfl⟩:=Kd.R_slice HO.out
  have hk:=Kd.C_string (P:=Try.prog) Try.underlying57 Try.underlying5 Try.underlying9 (Kd.R_reads' HO.out).2.2 (src:=57) (dst:=9) (c:=c)
  go_wp2
  go_ret
  exact ⟨rfl,HB.out⟩
 rw [if_neg hs] at h
 cases h
end

mutual
def impl_combined.l0:Nat→List ByteArray→List ByteArray→List (List Int)→Int→Int→Option (List ByteArray)
 | 0,_,_,_,_,_=>none
 | k+1,x1,x5,x12,x13,x14=>if x14 < x13 then (if 0≤x14 then (if x14 < (x12.length:Int) then (if 0 < (x1.length:Int) then (if 0≤((rdOf ByteArray.empty x1 0).size:Int) then (if (((rdOf ByteArray.empty x1 0).size:Int):Int).toNat≤281474976710656 then (impl_combined.l1 k x1 x5 (rd_L5 x12 x14) (strOfNums (List.replicate (((rdOf ByteArray.empty x1 0).size:Int):Int).toNat 0)) x12 x13 x14 x1 (x1.length:Int) 0) else (none)) else (none)) else (none)) else (none)) else (none)) else (some x5)
def impl_combined.l1:Nat→List ByteArray→List ByteArray→List Int→ByteArray→List (List Int)→Int→Int→List ByteArray→Int→Int→Option (List ByteArray)
 | 0,_,_,_,_,_,_,_,_,_,_=>none
 | k+1,x1,x5,x7,x8,x12,x13,x14,x24,x25,x26=>if x26 < x25 then (if 0≤x26 then (if x26 < (x24.length:Int) then (if x26 < (x7.length:Int) then ((impl_timesOf.f k (rd x7 x26) (rdOf ByteArray.empty x24 x26)).bind fun t330=>((impl_sumOf.f k x8 t330).bind fun t331=>(impl_combined.l1 k x1 x5 x7 t331 x12 x13 x14 x24 x25 (wrap64 (x26+1))))) else (none)) else (none)) else (none)) else (if x5.length < 8796093022208 then (impl_combined.l0 k x1 (x5 ++ [x8]) x12 x13 (wrap64 (x14+1))) else (none))
end
def impl_combined.f (k:Nat) (l0:List (List Int)) (l1:List ByteArray):Option (List ByteArray):=impl_combined.l0 k l1 (([]:List ByteArray)) l0 (l0.length:Int) 0
theorem impl_combined.mono_l:∀ k,(∀ y0 y1 y2 y3 y4,LeO (impl_combined.l0 k y0 y1 y2 y3 y4) (impl_combined.l0 (k+1) y0 y1 y2 y3 y4))∧(∀ y0 y1 y2 y3 y4 y5 y6 y7 y8 y9,LeO (impl_combined.l1 k y0 y1 y2 y3 y4 y5 y6 y7 y8 y9) (impl_combined.l1 (k+1) y0 y1 y2 y3 y4 y5 y6 y7 y8 y9))
 | 0=>⟨fun _ _ _ _ _ r h=>by simp [impl_combined.l0] at h,fun _ _ _ _ _ _ _ _ _ _ r h=>by simp [impl_combined.l1] at h⟩
 | k+1=>by
  obtain ⟨ih0,ih1⟩:=impl_combined.mono_l k
  refine ⟨?_,?_⟩
  ·intro y0 y1 y2 y3 y4
   unfold impl_combined.l0
   repeat' first
   | (with_reducible exact ih0 _ _ _ _ _)
   | (with_reducible exact ih1 _ _ _ _ _ _ _ _ _ _)
   | (with_reducible exact impl_sumOf.mono _ _ _)
   | (with_reducible exact impl_timesOf.mono _ _ _)
   |(with_reducible exact LeO.refl _)|(with_reducible exact LeO.none _)|(with_reducible refine LeO.ite ?_ ?_)|(with_reducible refine LeO.bind ?_ (fun _=>?_))|exact ih0 _ _ _ _ _|exact ih1 _ _ _ _ _ _ _ _ _ _|exact impl_sumOf.mono _ _ _|exact impl_timesOf.mono _ _ _|exact LeO.none _|refine LeO.ite ?_ ?_|refine LeO.bind ?_ (fun _=>?_)
  intro y0 y1 y2 y3 y4 y5 y6 y7 y8 y9
  unfold impl_combined.l1
  repeat' first
  | (with_reducible exact ih0 _ _ _ _ _)
  | (with_reducible exact ih1 _ _ _ _ _ _ _ _ _ _)
  | (with_reducible exact impl_sumOf.mono _ _ _)
  | (with_reducible exact impl_timesOf.mono _ _ _)
  |(with_reducible exact LeO.refl _)|(with_reducible exact LeO.none _)|(with_reducible refine LeO.ite ?_ ?_)|(with_reducible refine LeO.bind ?_ (fun _=>?_))|exact ih0 _ _ _ _ _|exact ih1 _ _ _ _ _ _ _ _ _ _|exact impl_sumOf.mono _ _ _|exact impl_timesOf.mono _ _ _|exact LeO.none _|refine LeO.ite ?_ ?_|refine LeO.bind ?_ (fun _=>?_)
theorem impl_combined.mono:∀ a0 a1 k,LeO (impl_combined.f k a0 a1) (impl_combined.f (k+1) a0 a1):=by
 intro a0 a1 k
 obtain ⟨ih0,ih1⟩:=impl_combined.mono_l k
 unfold impl_combined.f
 repeat' first
   | (with_reducible exact ih0 _ _ _ _ _)
   | (with_reducible exact ih1 _ _ _ _ _ _ _ _ _ _)
   | (with_reducible exact impl_sumOf.mono _ _ _)
   | (with_reducible exact impl_timesOf.mono _ _ _)
   |(with_reducible exact LeO.refl _)|(with_reducible exact LeO.none _)|(with_reducible refine LeO.ite ?_ ?_)|(with_reducible refine LeO.bind ?_ (fun _=>?_))|exact ih0 _ _ _ _ _|exact ih1 _ _ _ _ _ _ _ _ _ _|exact impl_sumOf.mono _ _ _|exact impl_timesOf.mono _ _ _|exact LeO.none _|refine LeO.ite ?_ ?_|refine LeO.bind ?_ (fun _=>?_)
theorem impl_combined.calls (k:Nat) (A0:Option Addr) (c0:Nat) (l0:List (List Int)) (A1:Option Addr) (c1:Nat) (l1:List ByteArray) (r:List ByteArray) (w:World) (hr0:Kd.C (Kd.slice 5 (Kd.int .u8)) w A0 l0.length l0) (hc0:l0.length≤c0) (hr1:Kd.C Kd.string w A1 l1.length l1) (hc1:l1.length≤c1) (h:impl_combined.f k l0 l1=some r) :
  Calls Try.prog 100 #[.slice A0 l0.length c0, .slice A1 l1.length c1] w fun e w'=>∃ v0_:Value,e = .returned (v0_)∧Kd.R Kd.string 9 w' w.heap.size (fun _=>True) v0_ r∧Below w.heap.size w w':=by
 have HR0:=am hr0
 have HC0:=am hc0
 clear hr0 hc0
 have HR1:=am hr1
 have HC1:=am hc1
 clear hr1 hc1
 have HB:=am (Below.refl w.heap.size w)
 have H:(impl_combined.l0 k l1 (([]:List ByteArray)) l0 (l0.length:Int) 0)=some r:=h
 clear h
 obtain ⟨y320,hy320⟩:∃ y_:List ByteArray,y_=(([]:List ByteArray)):=⟨_,rfl⟩
 replace H:(impl_combined.l0 k l1 y320 l0 (l0.length:Int) 0)=some r:=by first|(rw [hy320];with_reducible exact H)|(have H2_:=(Option.bind_some _ _).symm.trans H;rw [hy320];with_reducible exact H2_)|(have H2_:=(Option.bind_some _ _).symm.trans H;with_reducible exact H2_)|with_reducible exact H|(rw [hy320];exact H)|exact H
 have Ny320:=am hy320
 clear hy320
 have H':=am H
 clear H
 go_enter Try.func100,Try.ntmps100
 go_wp2_with (first|((with_reducible refine gate_dst (N:=11) rfl ?_);refine Kd.R_lit Kd.string _ 9 ?hg (N:=11) ?hd (xs:=([]:List ByteArray)) (inner:=[]) (ok:=fun _=>True) (okp:=fun _=>True) ?hr ?hp (fun _ hk=>hk) trivial (Below.refl _ _) (Nat.le_refl _) d20 ?_;(case hd=>rfl);(case hg=>rfl);(case hr=>first|(go_simp;done)|(go_simp;rfl));(case hp=>exact (Reps.none _ _));intro v321 w3 ho4 hb hg_ hnew_;clear hg_ hnew_;(first|rw [← Ny320.out] at ho4|(simp only [Int.reduceToNat] at ho4;rw [← Ny320.out] at ho4));have n0_:=am (Kd.R_lower ho4 (pz d0));have n1_:=am (pu d0 hb);clear HB;have HO322:=n0_;have HB:=n1_;clear n0_ n1_;clear hb ho4))
 go_loopg [5,14] k (fun kq v5 v14 w'=>∃ (x5_1:List ByteArray) (x14_1:Int),v14 = .int .i64 x14_1∧Aside0 (impl_combined.l0 kq l1 x5_1 l0 (l0.length:Int) x14_1=some r)∧Aside0 (kq≤k)∧Aside0 (Kd.R Kd.string 9 w' w.heap.size (fun _=>True) v5 x5_1)∧Aside0 (Below w.heap.size w w'))
 case atStart=>exact ⟨(y320),(0),d2,H',⟨Nat.le_refl _⟩,⟨by (with_reducible repeat (first|apply Kd.R_alloc|apply Kd.R_drewN|apply Kd.R_drew));exact HO322.out⟩,⟨d0⟩⟩
 case round =>
  clear H'
  try clear c1
  try clear p2
  obtain ⟨x5_1,x14_1,rfl,HA,HK1,HO_5,HB⟩:=hrel
  cases gk with
  | zero=>exact absurd HA.out (by simp [impl_combined.l0])
  | succ k1 =>
   have H:=HA.out
   clear HA
   simp only [impl_combined.l0] at H
   by_cases c5:x14_1 < (l0.length:Int)
   ·rw [if_pos c5] at H
    have c5b0:decide (x14_1 < (l0.length:Int))=true:=decide_eq_true c5
    clear c5
    by_cases c6:0≤x14_1
    ·rw [if_pos c6] at H
     have c6b0:decide (0≤x14_1)=true:=decide_eq_true c6
     clear c6
     by_cases c7:x14_1 < (l0.length:Int)
     ·rw [if_pos c7] at H
      have c7b0:decide (x14_1 < (l0.length:Int))=true:=decide_eq_true c7
      clear c7
      by_cases c8:0 < (l1.length:Int)
      ·rw [if_pos c8] at H
       have c8b0:decide (0 < (l1.length:Int))=true:=decide_eq_true c8
       have c8b1:decide (0 < l1.length)=true:=decide_eq_true d6
       clear c8
       by_cases c9:0≤((rdOf ByteArray.empty l1 0).size:Int)
       ·rw [if_pos c9] at H
        have c9b0:=eq_true c9
        have c9b1:decide (0≤((rdOf ByteArray.empty l1 0).size:Int))=true:=decide_eq_true c9
        clear c9
        by_cases c10:(((rdOf ByteArray.empty l1 0).size:Int):Int).toNat≤281474976710656
        ·rw [if_pos c10] at H
         have c10b0:=eq_true c10
         have c10b1:decide ((((rdOf ByteArray.empty l1 0).size:Int):Int).toNat≤281474976710656)=true:=decide_eq_true c10
         clear c10
         obtain ⟨y325,hy325⟩:∃ y_:List Int,y_=(List.replicate (((rdOf ByteArray.empty l1 0).size:Int):Int).toNat 0):=⟨_,rfl⟩
         replace H:(impl_combined.l1 k1 l1 x5_1 (rd_L5 l0 x14_1) (strOfNums y325) l0 (l0.length:Int) x14_1 l1 (l1.length:Int) 0)=some r:=by first|(rw [hy325];with_reducible exact H)|(have H2_:=(Option.bind_some _ _).symm.trans H;rw [hy325];with_reducible exact H2_)|(have H2_:=(Option.bind_some _ _).symm.trans H;with_reducible exact H2_)|with_reducible exact H|(rw [hy325];exact H)|exact H
         have Ny325:=am hy325
         clear hy325
         have H':=am H
         clear H
         have p323:0≤(x14_1:Int):=od d1
         have q323:x14_1 < (l0.length:Int):=od d1
         obtain ⟨ad323,A323_0,c323_0,e323,hx323_0,hl323_0,hi323_0⟩:=at_L5 HR0.out x14_1 p323 q323
         cases e323
         replace hx323_0:=(HB.out.cell (World.block_lt_of_cell? w _ hx323_0)).trans hx323_0
         have HR323_0:=am hi323_0
         have HC323_0:=am hl323_0
         clear hi323_0 hl323_0
         replace p323:=eq_true p323
         replace q323:=eq_true q323
         have p324:0≤(0:Int):=d6
         have q324:0 < (l1.length:Int):=od d1
         obtain ⟨ad324,e324,hx324_0⟩:=Kd.at_string HR1.out 0 p324 q324
         cases e324
         have qi324:(0 < l1.length)=True:=eq_true d6
         (try rw [show ((0:Int)).toNat=0 from rfl] at hx324_0)
         (try rw [Addr.add_zero'] at hx324_0)
         replace hx324_0:=(HB.out.cell (World.block_lt_of_cell? w _ hx324_0)).trans hx324_0
         replace p324:=eq_true p324
         replace q324:=eq_true q324
         go_wp2_with (first|((with_reducible refine gate_dst (N:=22) rfl ?_);refine Kd.R_make (Kd.int .u8) _ 5 rfl (N:=22) rfl 57 _ _ rfl ((rdOf ByteArray.empty l1 0).size:Int) rfl rfl Try.underlying57 (.int .u8 0) 1 info5 rfl d11 d6 0 (ok:=fun _=>True) (okp:=fun _=>True) rfl (fun _ hk=>hk) trivial (od d1) (Nat.le_trans (Nat.mul_le_mul_right _ (od d1:((rdOf ByteArray.empty l1 0).size:Int).toNat≤281474976710656)) d6) (Below.refl _ _) (Nat.le_refl _) ?_;intro v326 w11 ho12 hb hg_ hnew_;clear hg_ hnew_;(first|rw [← Ny325.out] at ho12|(simp only [Int.reduceToNat] at ho12;rw [← Ny325.out] at ho12));have n0_:=am (Kd.R_below d7 hb);have n1_:=am (Kd.R_lower ho12 (pz d0));have n2_:=am (pu d0 hb);clear HO_5;clear HB;have HO_5:=n0_;have HO327:=n1_;have HB:=n2_;clear n0_ n1_ n2_;clear hb ho12;have hcv13:=own_string (P:=Try.prog) Try.underlying57 Try.underlying5 Try.underlying9 (Kd.own_of_R HO327.out)))
         go_loopg [8,26] k1 (fun kq v8 v26 w'=>∃ (x8_2:ByteArray) (x26_2:Int),v8 = .string x8_2∧v26 = .int .i64 x26_2∧Aside0 (impl_combined.l1 kq l1 x5_1 (rd_L5 l0 x14_1) x8_2 l0 (l0.length:Int) x14_1 l1 (l1.length:Int) x26_2=some r)∧Aside0 (kq≤k1)∧Aside0 (Kd.R Kd.string 9 w' w.heap.size (fun _=>True) u5 x5_1)∧Aside0 (Below w.heap.size w w'))
         case atStart=>exact ⟨(strOfNums y325),(0),d2,d2,H',⟨Nat.le_refl _⟩,⟨d7⟩,⟨d0⟩⟩
         case round =>
          clear H'
          try clear c1
          try clear hcv1
          try clear p2
          try clear c3
          try clear p3
          try clear q3
          try clear hx3
          try clear qi3
          try clear c5
          try clear c5b0
          try clear c6
          try clear c6b0
          try clear c7
          try clear c7b0
          try clear c8
          try clear c8b0
          try clear c8b1
          try clear c9
          try clear c9b0
          try clear c9b1
          try clear c10
          try clear c10b0
          try clear c10b1
          try clear hcv13
          try clear hx323_0
          try clear hx324_0
          try clear p2
          try clear p323
          try clear p324
          try clear q323
          try clear q324
          obtain ⟨x8_2,x26_2,rfl,rfl,HA,HK2,HO_5,HB⟩:=hrel
          cases gk with
          | zero=>exact absurd HA.out (by simp [impl_combined.l1])
          | succ k2 =>
           have H:=HA.out
           clear HA
           simp only [impl_combined.l1] at H
           by_cases c14:x26_2 < (l1.length:Int)
           ·rw [if_pos c14] at H
            have c14b0:decide (x26_2 < (l1.length:Int))=true:=decide_eq_true c14
            clear c14
            by_cases c15:0≤x26_2
            ·rw [if_pos c15] at H
             have c15b0:decide (0≤x26_2)=true:=decide_eq_true c15
             clear c15
             by_cases c16:x26_2 < (l1.length:Int)
             ·rw [if_pos c16] at H
              have c16b0:decide (x26_2 < (l1.length:Int))=true:=decide_eq_true c16
              clear c16
              by_cases c17:x26_2 < ((rd_L5 l0 x14_1).length:Int)
              ·rw [if_pos c17] at H
               have c17b0:decide (x26_2 < ((rd_L5 l0 x14_1).length:Int))=true:=decide_eq_true c17
               clear c17
               replace H:=Option.bind_eq_some_iff.mp H
               obtain ⟨t330,A180,H⟩:=H
               replace H:((impl_sumOf.f k2 x8_2 t330).bind fun t331=>(impl_combined.l1 k2 l1 x5_1 (rd_L5 l0 x14_1) t331 l0 (l0.length:Int) x14_1 l1 (l1.length:Int) (wrap64 (x26_2+1))))=some r:=H
               have A18:=am A180
               clear A180
               replace H:=Option.bind_eq_some_iff.mp H
               obtain ⟨t331,A190,H⟩:=H
               replace H:(impl_combined.l1 k2 l1 x5_1 (rd_L5 l0 x14_1) t331 l0 (l0.length:Int) x14_1 l1 (l1.length:Int) (wrap64 (x26_2+1)))=some r:=H
               have A19:=am A190
               clear A190
               have H':=am H
               clear H
               have p328:0≤(x26_2:Int):=od d1
               have q328:x26_2 < (l1.length:Int):=od d1
               obtain ⟨ad328,e328,hx328_0⟩:=Kd.at_string HR1.out x26_2 p328 q328
               obtain rfl:ad324=ad328:=(by injection e328)
               replace hx328_0:=(HB.out.cell (World.block_lt_of_cell? w _ hx328_0)).trans hx328_0
               replace p328:=eq_true p328
               replace q328:=eq_true q328
               have p329:0≤(x26_2:Int):=od d1
               have q329:x26_2 < ((rd_L5 l0 x14_1).length:Int):=od d1
               obtain ⟨ad329,e329,hx329_0⟩:=Kd.at_int HR323_0.out x26_2 p329 q329
               cases e329
               replace hx329_0:=(HB.out.cell (World.block_lt_of_cell? w _ hx329_0)).trans hx329_0
               replace p329:=eq_true p329
               replace q329:=eq_true q329
               go_wp2_with (first|((with_reducible refine gate_callee (f:=182) rfl ?_);refine goesL_ (some 37) rfl rfl Try.func182 d3 rfl #[.int .u8 (rd (rd_L5 l0 x14_1) x26_2), .string (rdOf ByteArray.empty l1 x26_2)] rfl d4 ?_;(with_reducible refine (impl_timesOf.calls k2 (rd (rd_L5 l0 x14_1) x26_2) (rdOf ByteArray.empty l1 x26_2) t330 _ A18.out).mono ?_);rintro e w20 ⟨rfl,hb⟩;refine ⟨_,rfl,?_⟩;have n0_:=am (Kd.R_below d7 hb);have n1_:=am (pu d0 hb);clear HO_5;clear HB;have HO_5:=n0_;have HB:=n1_;clear n0_ n1_;(try clear hb);(try clear hb2);(try clear hk);(try clear hi))|((with_reducible refine gate_callee (f:=181) rfl ?_);refine goesL_ (some 38) rfl rfl Try.func181 d3 rfl #[.string x8_2, .string t330] rfl d4 ?_;(with_reducible refine (impl_sumOf.calls k2 x8_2 t330 t331 _ A19.out).mono ?_);rintro e w21 ⟨rfl,hb⟩;refine ⟨_,rfl,?_⟩;have n0_:=am (Kd.R_below d7 hb);have n1_:=am (pu d0 hb);clear HO_5;clear HB;have HO_5:=n0_;have HB:=n1_;clear n0_ n1_;(try clear hb);(try clear hb2);(try clear hk);(try clear hi)))
               go_roundg k2
               case measure=>have:=HK1.out;have:=HK2.out;omega
               case rel=>exact ⟨(t331),(wrap64 (x26_2+1)),d2,d2,H',⟨d40⟩,⟨d7⟩,⟨d0⟩⟩
              rw [if_neg c17] at H
              exact absurd H d20
             rw [if_neg c16] at H
             exact absurd H d20
            rw [if_neg c15] at H
            exact absurd H d20
           rw [if_neg c14] at H
           have c14b0:decide (x26_2 < (l1.length:Int))=false:=decide_eq_false c14
           clear c14
           by_cases c22:x5_1.length < 8796093022208
           ·rw [if_pos c22] at H
            have LMc22:=am c22
            clear c22
            obtain ⟨y332,hy332⟩:∃ y_:List ByteArray,y_=(x5_1 ++ [x8_2]):=⟨_,rfl⟩
            replace H:(impl_combined.l0 k2 l1 y332 l0 (l0.length:Int) (wrap64 (x14_1+1)))=some r:=by first|(rw [hy332];with_reducible exact H)|(have H2_:=(Option.bind_some _ _).symm.trans H;rw [hy332];with_reducible exact H2_)|(have H2_:=(Option.bind_some _ _).symm.trans H;with_reducible exact H2_)|with_reducible exact H|(rw [hy332];exact H)|exact H
            have Ny332:=am hy332
            clear hy332
            have H':=am H
            clear H
            go_wp2_with (first|((with_reducible refine gate_builtin (b:=.append) (xs:=#[.tmp 40, .tmp 42]) rfl ?_);at_builtin;refine Kd.R_append Kd.string (w0:=w) w.heap.size rfl (.tmp 40) (.tmp 42) 22 9 (.string ⟨#[]⟩) 16 rfl Try.underlying22 info9 rfl d11 d6 u5 x5_1 x8_2 [.string x8_2] (fun _=>True) (fun _=>False) rfl rfl ?aP (fun _ hk=>hk.elim) ?aF ?aO ?aB ?aS ?aL ?_;(case aP=>exact rfl);(case aB=>exact d0);(case aF=>exact (fun _ _=>trivial));(case aO=>exact d7);(case aS=>exact (pz d0));(case aL=>have:=LMc22.out;omega);intro v333 w23 ho hb hg hat;rw [← Ny332.out] at ho;have n0_:=am (hb);have n1_:=am (ho);clear HB;clear HO_5;have HB:=n0_;have HO334:=n1_;clear n0_ n1_;clear ho hb hg hat))
            go_roundg k2
            case measure=>have:=HK1.out;have:=HK2.out;omega
            case rel=>exact ⟨(y332),(wrap64 (x14_1+1)),d2,H',⟨d40⟩,⟨by (with_reducible repeat (first|apply Kd.R_alloc|apply Kd.R_drewN|apply Kd.R_drew));exact HO334.out⟩,⟨d0⟩⟩
           rw [if_neg c22] at H
           exact absurd H d20
        rw [if_neg c10] at H
        exact absurd H d20
       rw [if_neg c9] at H
       exact absurd H d20
      rw [if_neg c8] at H
      exact absurd H d20
     rw [if_neg c7] at H
     exact absurd H d20
    rw [if_neg c6] at H
    exact absurd H d20
   rw [if_neg c5] at H
   have c5b0:decide (x14_1 < (l0.length:Int))=false:=decide_eq_false c5
   clear c5
   obtain rfl:=Option.some.inj H
   go_wp2
   go_ret
   exact ⟨_,d5,d7,d0⟩

def slices_Clone_byte_byte.f (l0:List Int):Option (List Int):=(some (([]:List Int):List Int)).bind fun y181=>(if y181.length+l0.length < 140737488355328 then (some (y181 ++ l0)) else (none))
theorem slices_Clone_byte_byte.calls (A0:Option Addr) (c0:Nat) (l0:List Int) (r:List Int) (w:World) (hr0:Kd.C (Kd.int .u8) w A0 l0.length l0) (hc0:l0.length≤c0) (h:slices_Clone_byte_byte.f l0=some r) :
  Calls Try.prog 183 #[.slice A0 l0.length c0] w fun e w'=>∃ v0_:Value,e = .returned (v0_)∧Kd.R (Kd.int .u8) 5 w' w.heap.size (fun _=>True) v0_ r∧Below w.heap.size w w':=by
 have HR0:=am hr0
 have HC0:=am hc0
 clear hr0 hc0
 have HB:=am (Below.refl w.heap.size w)
 have H:((some (([]:List Int):List Int)).bind fun y181=>(if y181.length+l0.length < 140737488355328 then (some (y181 ++ l0)) else (none)))=some r:=h
 clear h
 obtain ⟨y181,hy181⟩:∃ y_:List Int,y_=(([]:List Int)):=⟨_,rfl⟩
 replace H:(if y181.length+l0.length < 140737488355328 then (some (y181 ++ l0)) else (none))=some r:=by first|(rw [hy181];with_reducible exact H)|(have H2_:=(Option.bind_some _ _).symm.trans H;rw [hy181];with_reducible exact H2_)|(have H2_:=(Option.bind_some _ _).symm.trans H;with_reducible exact H2_)|with_reducible exact H|(rw [hy181];exact H)|exact H
 have Ny181:=am hy181
 clear hy181
 by_cases c2:y181.length+l0.length < 140737488355328
 ·rw [if_pos c2] at H
  have LMc2:=am c2
  clear c2
  obtain ⟨y184,hy184⟩:∃ y_:List Int,y_=(y181 ++ l0):=⟨_,rfl⟩
  replace H:(some y184)=some r:=by first|(rw [hy184];with_reducible exact H)|(have H2_:=(Option.bind_some _ _).symm.trans H;rw [hy184];with_reducible exact H2_)|(have H2_:=(Option.bind_some _ _).symm.trans H;with_reducible exact H2_)|with_reducible exact H|(rw [hy184];exact H)|exact H
  have Ny184:=am hy184
  clear hy184
  obtain rfl:=Option.some.inj H
  have keq:=fun (W:World) (a:Option Addr) (n c:Nat)=>Lib.run_eql_slice_nil (P:=Try.prog) W 57 5 a n c 0 0 Try.underlying57
  cases A0 with
  | none =>
   have e0:l0=[]:=by
    have hc:=HR0.out
    by_cases hp:0 < l0.length
    ·obtain ⟨ad,h1,_⟩:=hc.2.2 hp
     cases h1
    exact List.eq_nil_of_length_eq_zero d6
   have ey:y184=[]:=by rw [Ny184.out,Ny181.out,e0];rfl
   subst ey
   go_enter Try.func183,Try.ntmps183
   go_wp2
   go_ret
   exact ⟨_,rfl,Kd.R_nil _ _ _ _ _,HB.out⟩
  | some ad0 =>
  go_enter Try.func183,Try.ntmps183
  go_wp2_with (first|((with_reducible refine gate_dst (N:=5) rfl ?_);refine Kd.R_lit (Kd.int .u8) _ 5 ?hg (N:=5) ?hd (xs:=([]:List Int)) (inner:=[]) (ok:=fun _=>True) (okp:=fun _=>True) ?hr ?hp (fun _ hk=>hk) trivial (Below.refl _ _) (Nat.le_refl _) d20 ?_;(case hd=>rfl);(case hg=>rfl);(case hr=>first|(go_simp;done)|(go_simp;rfl));(case hp=>exact (Reps.none _ _));intro v182 w3 ho4 hb hg_ hnew_;clear hg_ hnew_;(first|rw [← Ny181.out] at ho4|(simp only [Int.reduceToNat] at ho4;rw [← Ny181.out] at ho4));have n0_:=am (Kd.R_lower ho4 (pz d0));have n1_:=am (pu d0 hb);clear HB;have HO183:=n0_;have HB:=n1_;clear n0_ n1_;clear hb ho4)|((with_reducible refine gate_builtin (b:=.append) (xs:=#[.tmp 5, .tmp 6]) rfl ?_);at_builtin;refine Kd.R_append_rows (Kd.int .u8) (w0:=w) w.heap.size rfl (.tmp 5) (.tmp 6) 57 5 (.int .u8 0) 1 rfl Try.underlying57 info5 rfl d11 d6 v182 y181 l0 _ _ _ (fun _=>True) (fun _=>False) rfl rfl ?aO ?aR (fun _ _ h=>h) (fun _ h=>h.elim) ?aF ?aB ?aS ?aL ?_;(case aR=>repeat (first|exact (Kd.C_below HR0.out HB.out)|(with_reducible refine Kd.C_alloc ?_ _)|(with_reducible refine Kd.C_drewN ?_ _)|(with_reducible refine Kd.C_drew ?_)));(case aB=>exact d0);(case aF=>exact (fun _ _=>trivial));(case aO=>exact (by (with_reducible repeat (first|apply Kd.R_alloc|apply Kd.R_drewN|apply Kd.R_drew));exact HO183.out));(case aS=>exact (pz d0));(case aL=>have:=LMc2.out;omega);intro v185 w5 ho hb hg hat;rw [← Ny184.out] at ho;have n0_:=am (hb);have n1_:=am (ho);clear HB;clear HO183;have HB:=n0_;have HO186:=n1_;clear n0_ n1_;clear ho hb hg hat))
  go_ret
  exact ⟨_,d5,by (with_reducible repeat (first|apply Kd.R_alloc|apply Kd.R_drewN|apply Kd.R_drew));exact HO186.out,d0⟩
 rw [if_neg c2] at H
 exact absurd H d20

-- NOT PRINTED: function 200 (slices_IndexFunc_byte_byte)

def impl_Inverse.f (k:Nat) (a0:Int):Option (Int):=(impl_power.f k a0 254).bind fun t335=>(some t335)
theorem impl_Inverse.mono:∀ a0 k,LeO (impl_Inverse.f k a0) (impl_Inverse.f (k+1) a0):=by
 intro a0 k
 unfold impl_Inverse.f
 repeat' first
   | (with_reducible exact impl_power.mono _ _ _)
   |(with_reducible exact LeO.refl _)|(with_reducible exact LeO.none _)|(with_reducible refine LeO.ite ?_ ?_)|(with_reducible refine LeO.bind ?_ (fun _=>?_))|exact impl_power.mono _ _ _|exact LeO.none _|refine LeO.ite ?_ ?_|refine LeO.bind ?_ (fun _=>?_)
theorem impl_Inverse.calls (k:Nat) (a0:Int) (r:Int) (w:World) (h:impl_Inverse.f k a0=some r) :
  Calls Try.prog 207 #[.int .u8 a0] w fun e w'=>e = .returned (.int .u8 r)∧Drawn0 w w':=by
 have H:((impl_power.f k a0 254).bind fun t335=>(some t335))=some r:=h
 clear h
 replace H:=Option.bind_eq_some_iff.mp H
 obtain ⟨t335,A20,H⟩:=H
 replace H:(some t335)=some r:=H
 have A2:=am A20
 clear A20
 obtain rfl:=Option.some.inj H
 go_enter Try.func207,Try.ntmps207
 go_wp2_with (first|((with_reducible refine gate_callee (f:=180) rfl ?_);refine goesL_ (some 4) rfl rfl Try.func180 d3 rfl #[.int .u8 a0, .int .i64 254] rfl d4 ?_;(with_reducible refine (impl_power.calls k a0 254 t335 _ A2.out).mono ?_);rintro e w' ⟨rfl,⟨nd,rfl⟩⟩;refine ⟨_,rfl,?_⟩))
 go_ret
 exact ⟨d2,d10⟩

end Go.Proofs.Ytajikfnpcobnpaa.PFnExactCheckShards
-- HALVED
-- SQUEEZED
-- SQUEEZED2
-- SQUEEZED3
-- SQUEEZED4
-- SQUEEZED5
-- SQUEEZED6
