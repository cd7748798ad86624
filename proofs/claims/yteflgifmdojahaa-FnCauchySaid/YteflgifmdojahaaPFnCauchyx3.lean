import Derived.Test.YteflgifmdojahaaVFnCauchyB
import Derived.Test.YteflgifmdojahaaPFnCauchyx0
import Derived.Test.YteflgifmdojahaaPFnCauchyx2
namespace Go.Proofs.Yteflgifmdojahaa.PFnCauchy
open Go.RowKit Go.Proofs.YteflgifmdojahaaW.PrintWords Go.Proofs.YteflgifmdojahaaW.PrintLast Go.Proofs.YteflgifmdojahaaW.PrintMore Go.Proofs.Yteflgifmdojahaa.KitS
attribute [local go_sem] max2_int min2_int max_two min_two max_three min_three max_four min_four
set_option linter.unusedVariables false
set_option maxHeartbeats 8000000
set_option maxRecDepth 100000
set_option linter.unusedSimpArgs false
mutual
def spec_l1Cur_chosen.l0:Nat→Int→Int→List Int→Int→List Int→Int→Int→Option (List Int × Int × Int)
 | 0,_,_,_,_,_,_,_=>none
 | k+1,x1,x2,x7,x8,x1000,x1001,x1002=>if x8 < x1 then (spec_l1Cur_chosen.j1 k x1 x2 x7 x8 (decide ((x7.length:Int) < x2)) x1000 x1001 x1002) else (spec_l1Cur_chosen.j1 k x1 x2 x7 x8 false x1000 x1001 x1002)
def spec_l1Cur_chosen.j1:Nat→Int→Int→List Int→Int→Bool→List Int→Int→Int→Option (List Int × Int × Int)
 | 0,_,_,_,_,_,_,_,_=>none
 | k+1,x1,x2,x7,x8,x17,x1000,x1001,x1002=>if x17=true then (if (wrap64 (x1 - x8))≤(wrap64 (x2 - (x7.length:Int))) then (if x7.length < 17592186044416 then (spec_l1Cur_chosen.l0 k x1 x2 (x7 ++ [x8]) (wrap64 (x8+1)) x1000 x1001 x1002) else (none)) else ((spec_l1Cur_one.f x1000 x1001 x1002 2).bind fun bt284=>(if bt284.1=true then (if x7.length < 17592186044416 then (spec_l1Cur_chosen.l0 k x1 x2 (x7 ++ [x8]) (wrap64 (x8+1)) x1000 bt284.2.1 bt284.2.2) else (none)) else (spec_l1Cur_chosen.l0 k x1 x2 x7 (wrap64 (x8+1)) x1000 bt284.2.1 bt284.2.2)))) else (some (x7,x1001,x1002))
end
def spec_l1Cur_chosen.f (k:Nat) (s0_0:List Int) (s0_1:Int) (s0_2:Int) (a1:Int) (a2:Int):Option (List Int × Int × Int):=spec_l1Cur_chosen.l0 k a1 a2 ([]:List Int) 0 s0_0 s0_1 s0_2
theorem spec_l1Cur_chosen.mono_l:∀ k,(∀ y0 y1 y2 y3 y4 y5 y6,LeO (spec_l1Cur_chosen.l0 k y0 y1 y2 y3 y4 y5 y6) (spec_l1Cur_chosen.l0 (k+1) y0 y1 y2 y3 y4 y5 y6))∧(∀ y0 y1 y2 y3 y4 y5 y6 y7,LeO (spec_l1Cur_chosen.j1 k y0 y1 y2 y3 y4 y5 y6 y7) (spec_l1Cur_chosen.j1 (k+1) y0 y1 y2 y3 y4 y5 y6 y7))
 | 0=>⟨fun _ _ _ _ _ _ _ r h=>by simp [spec_l1Cur_chosen.l0] at h,fun _ _ _ _ _ _ _ _ r h=>by simp [spec_l1Cur_chosen.j1] at h⟩
 | k+1=>by
  obtain ⟨ih0,ih1⟩:=spec_l1Cur_chosen.mono_l k
  refine ⟨?_,?_⟩
  ·intro y0 y1 y2 y3 y4 y5 y6
   unfold spec_l1Cur_chosen.l0
   exact mm
  intro y0 y1 y2 y3 y4 y5 y6 y7
  unfold spec_l1Cur_chosen.j1
  exact mm
theorem spec_l1Cur_chosen.mono:∀ a0 a1 a2 a3 a4 k,LeO (spec_l1Cur_chosen.f k a0 a1 a2 a3 a4) (spec_l1Cur_chosen.f (k+1) a0 a1 a2 a3 a4):=by
 intro a0 a1 a2 a3 a4 k
 obtain ⟨ih0,ih1⟩:=spec_l1Cur_chosen.mono_l k
 unfold spec_l1Cur_chosen.f
 exact mm
theorem spec_l1Cur_chosen.calls (k:Nat) (g:Nat) (s0_0:List Int) (s0_1:Int) (s0_2:Int) (a1:Int) (a2:Int) (r1:List Int) (r2:Int) (r3:Int) (w0 w:World) (hI:IsS127 w0 w g s0_0 s0_1 s0_2) (hB:Below w0.heap.size w0 w) (h:spec_l1Cur_chosen.f k s0_0 s0_1 s0_2 a1 a2=some (r1,r2,r3)) :
  Calls Try.prog 96 #[.pointer (some ⟨g,0,none⟩), .int .i64 a1, .int .i64 a2] w fun e w'=>∃ v0_:Value,e = .returned (v0_)∧Kd.R (Kd.int .i64) 3 w' w.heap.size (fun _=>True) v0_ r1∧IsS127 w0 w' g s0_0 r2 r3∧Below w0.heap.size w0 w'∧KeepBut w w' g none:=by
 have HI0:=am hI
 have HK:=am (KeepBut.refl w g none)
 have HL:=am hB.size
 clear hI
 have HW0:=am hB.size
 have HB:=am hB
 clear hB
 have H:=h
 unfold spec_l1Cur_chosen.f at H
 clear h
 have H':=am H
 clear H
 go_enter Try.func96,Try.ntmps96
 go_wp2
 go_loopg [7,8] k (fun kq v7 v8 w'=>∃ (x7_1:List Int) (x8_1:Int) (x1001_1:Int) (x1002_1:Int),v8 = .int .i64 x8_1∧Aside0 (spec_l1Cur_chosen.l0 kq a1 a2 x7_1 x8_1 s0_0 x1001_1 x1002_1=some (r1,r2,r3))∧Aside0 (kq≤k)∧Aside0 (Kd.R (Kd.int .i64) 3 w' w.heap.size (fun _=>True) v7 x7_1)∧Aside0 (IsS127 w0 w' g s0_0 x1001_1 x1002_1)∧Aside0 (KeepBut w w' g none)∧Aside0 (Below w0.heap.size w0 w'))
 case atStart=>exact ⟨(([]:List Int)),(0),(s0_1),(s0_2),d3,H',⟨Nat.le_refl _⟩,⟨d29⟩,⟨d4⟩,⟨d0⟩,⟨d6⟩⟩
 case round =>
  clear H'
  try clear p2
  obtain ⟨x7_1,x8_1,x1001_1,x1002_1,rfl,HA,HK1,HO_7,HI0,HK,HB⟩:=hrel
  cases gk with
  | zero=>exact absurd HA.out (by simp [spec_l1Cur_chosen.l0])
  | succ k1 =>
   have H:=HA.out
   clear HA
   simp only [spec_l1Cur_chosen.l0] at H
   have HC4:=am H
   clear H
   go_upto_region 3 with (fail)
   go_cut [17] (fun v17 wc=>∃ (kq:Nat) (x17_3:Bool),v17 = .bool x17_3∧Aside0 (spec_l1Cur_chosen.j1 kq a1 a2 x7_1 x8_1 x17_3 s0_0 x1001_1 x1002_1=some (r1,r2,r3))∧Aside0 (kq≤k1)∧Aside0 (Kd.R (Kd.int .i64) 3 wc w.heap.size (fun _=>True) u7 x7_1)∧Aside0 (IsS127 w0 wc g s0_0 x1001_1 x1002_1)∧Aside0 (KeepBut w wc g none)∧Aside0 (Below w0.heap.size w0 wc))
   case first =>
    have H:=HC4.out
    clear HC4
    by_cases c5:x8_1 < a1
    ·rw [if_pos c5] at H
     have c5b0:=decide_eq_true c5
     clear c5
     (first|rw [c5b0]|(simp only [i64_w,i32_w];rw [c5b0])|skip)
     have H':=am H
     clear H
     obtain ⟨Ao6,co6,eo6⟩:=Kd.R_slice HO_7.out
     subst eo6
     go_wp2
     go_meet
     case rel=>exact ⟨_,(decide ((x7_1.length:Int) < a2)),d3,H',⟨d103⟩,⟨yR HO_7⟩,⟨d4⟩,⟨d0⟩,⟨d6⟩⟩
    rw [if_neg c5] at H
    have c5b0:=decide_eq_false c5
    clear c5
    (first|rw [c5b0]|(simp only [i64_w,i32_w];rw [c5b0])|skip)
    have H':=am H
    clear H
    go_wp2
    go_meet
    case rel=>exact ⟨_,(false),d3,H',⟨d103⟩,⟨yR HO_7⟩,⟨d4⟩,⟨d0⟩,⟨d6⟩⟩
   case rest =>
    clear HC4
    try clear p2
    try clear c5
    try clear c5b0
    try clear p2
    obtain ⟨kq,x17_3,rfl,HA,HJ3,HO_7,HI0,HK,HB⟩:=hcut
    cases kq with
    | zero=>exact absurd HA.out (by simp [spec_l1Cur_chosen.j1])
    | succ kj3 =>
     have H:=HA.out
     clear HA
     simp only [spec_l1Cur_chosen.j1] at H
     by_cases c7:x17_3=true
     ·subst c7
      replace H:=yt H
      by_cases c8:(wrap64 (a1 - x8_1))≤(wrap64 (a2 - (x7_1.length:Int)))
      ·rw [if_pos c8] at H
       have c8b0:=decide_eq_true c8
       clear c8
       obtain ⟨c9,H⟩:=yi H
       have LMc9:=am c9
       clear c9
       generalize hy281:(x7_1 ++ [x8_1]:List Int)=y281 at H
       have Ny281:=am hy281.symm
       clear hy281
       have H':=am H
       clear H
       obtain ⟨Ao10,co10,eo10⟩:=Kd.R_slice HO_7.out
       subst eo10
       go_wp2_with (first|((with_reducible refine gate_builtin (b:=.append) (xs:=#[.tmp 32, .tmp 34]) rfl ?_);(try (refine gate_guard d20 ?_;dsimp only));at_builtin;refine Kd.R_append (Kd.int .i64) w.heap.size rfl (.tmp 32) (.tmp 34) 62 3 (.int .i64 0) 8 rfl Try.underlying62 info3 rfl d9 d13 (.slice Ao10 x7_1.length co10) x7_1 x8_1 [.int .i64 x8_1] (fun _=>True) (fun _=>False) rfl rfl d104 (fun _ hk=>hk.elim) d25 (by exact (yR HO_7)) (Below.refl _ _) (by exact (keep_size (w:=w) (g:=g) (row:=none) d0)) (by have:=LMc9.out;omega) ?_;intro v282 w11 ho hb hg hat;rw [← Ny281.out] at ho;have n0_:=am (IsS127.grown d4 hg (IsS127.own_ne HI0.out HO_7.out d9));have n1_:=am (below_weaken d6 HL.out hb);have n2_:=am (KeepBut.trans d0 (KeepBut.of_grown hg g) (Kd.R_base2 HO_7.out));have n3_:=am (ho);clear HI0 HB HK HO_7;have HI0:=n0_;have HB:=n1_;have HK:=n2_;have HO283:=n3_;clear n0_ n1_ n2_ n3_ ho hb hg hat))
       go_roundg kj3
       case measure=>have:=HK1.out;have:=HJ3.out;omega
       case rel=>exact ⟨(y281),(wrap64 (x8_1+1)),(x1001_1),(x1002_1),d3,H',⟨by have:=HK1.out;have:=HJ3.out;omega⟩,⟨yR HO283⟩,⟨d4⟩,⟨d0⟩,⟨d6⟩⟩
      rw [if_neg c8] at H
      have c8b0:=decide_eq_false c8
      clear c8
      obtain ⟨⟨t284,t285,t286⟩,A12,H⟩:=yo H
      try dsimp only at H
      by_cases c13:t284=true
      ·subst c13
       replace H:=yt H
       obtain ⟨c14,H⟩:=yi H
       have LMc14:=am c14
       clear c14
       generalize hy287:(x7_1 ++ [x8_1]:List Int)=y287 at H
       have Ny287:=am hy287.symm
       clear hy287
       have H':=am H
       clear H
       obtain ⟨Ao15,co15,eo15⟩:=Kd.R_slice HO_7.out
       subst eo15
       go_wp2_with (first|(go_at_call 101;(with_reducible refine (spec_l1Cur_one.calls g s0_0 x1001_1 x1002_1 2 true t285 t286 w0 _ d4 d6 A12.out).mono ?_);rintro e w16 ⟨rfl,hi,hb,hk⟩;replace HO_7:=am (Kd.R_mono (Kd.R_keep (IsS127.apart (show IsS127 w0 _ g s0_0 x1001_1 x1002_1 from by repeat (first|(with_reducible first|exact HI0.out|apply IsS127.alloc|apply IsS127.drewN|apply IsS127.drew|apply IsS127.set_1|apply IsS127.set_2)|exact HI0.out)) (yR HO_7) d9) hk (fun _ h=>h.2)) (fun _ h=>h.1));replace HK:=am (KeepBut.trans d0 hk (.inl rfl));replace HB:=am (hb);replace HI0:=am (hi);clear hb hk hi)|((with_reducible refine gate_builtin (b:=.append) (xs:=#[.tmp 32, .tmp 34]) rfl ?_);(try (refine gate_guard d20 ?_;dsimp only));at_builtin;refine Kd.R_append (Kd.int .i64) w.heap.size rfl (.tmp 32) (.tmp 34) 62 3 (.int .i64 0) 8 rfl Try.underlying62 info3 rfl d9 d13 (.slice Ao15 x7_1.length co15) x7_1 x8_1 [.int .i64 x8_1] (fun _=>True) (fun _=>False) rfl rfl d104 (fun _ hk=>hk.elim) d25 (by exact (yR HO_7)) (Below.refl _ _) (by exact (keep_size (w:=w) (g:=g) (row:=none) d0)) (by have:=LMc14.out;omega) ?_;intro v288 w17 ho hb hg hat;rw [← Ny287.out] at ho;have n0_:=am (IsS127.grown d4 hg (IsS127.own_ne HI0.out HO_7.out d9));have n1_:=am (below_weaken d6 HL.out hb);have n2_:=am (KeepBut.trans d0 (KeepBut.of_grown hg g) (Kd.R_base2 HO_7.out));have n3_:=am (ho);clear HI0 HB HK HO_7;have HI0:=n0_;have HB:=n1_;have HK:=n2_;have HO289:=n3_;clear n0_ n1_ n2_ n3_ ho hb hg hat))
       go_roundg kj3
       case measure=>have:=HK1.out;have:=HJ3.out;omega
       case rel=>exact ⟨(y287),(wrap64 (x8_1+1)),(t285),(t286),d3,H',⟨by have:=HK1.out;have:=HJ3.out;omega⟩,⟨yR HO289⟩,⟨d4⟩,⟨d0⟩,⟨d6⟩⟩
      replace c13:=Bool.eq_false_iff.mpr c13
      subst c13
      replace H:=yn H
      have H':=am H
      clear H
      obtain ⟨Ao18,co18,eo18⟩:=Kd.R_slice HO_7.out
      subst eo18
      go_wp2_with (first|(go_at_call 101;(with_reducible refine (spec_l1Cur_one.calls g s0_0 x1001_1 x1002_1 2 false t285 t286 w0 _ d4 d6 A12.out).mono ?_);rintro e w19 ⟨rfl,hi,hb,hk⟩;replace HO_7:=am (Kd.R_mono (Kd.R_keep (IsS127.apart (show IsS127 w0 _ g s0_0 x1001_1 x1002_1 from by repeat (first|(with_reducible first|exact HI0.out|apply IsS127.alloc|apply IsS127.drewN|apply IsS127.drew|apply IsS127.set_1|apply IsS127.set_2)|exact HI0.out)) (yR HO_7) d9) hk (fun _ h=>h.2)) (fun _ h=>h.1));replace HK:=am (KeepBut.trans d0 hk (.inl rfl));replace HB:=am (hb);replace HI0:=am (hi);clear hb hk hi))
      go_roundg kj3
      case measure=>have:=HK1.out;have:=HJ3.out;omega
      case rel=>exact ⟨(x7_1),(wrap64 (x8_1+1)),(t285),(t286),d3,H',⟨by have:=HK1.out;have:=HJ3.out;omega⟩,⟨yR HO_7⟩,⟨d4⟩,⟨d0⟩,⟨d6⟩⟩
     replace c7:=Bool.eq_false_iff.mpr c7
     subst c7
     replace H:=yn H
     simp only [Option.some.injEq,Prod.mk.injEq] at H
     obtain ⟨rfl,rfl,rfl⟩:=H
     go_wp2
     go_ret
     exact ⟨_,d2,yR HO_7,d4,d6,d0⟩

def spec_DrawPartOf.g (k:Nat) (s0_0:List Int) (s0_1:Int) (s0_2:Int):Option ((List (List Int)) × List Int × List Int × Int × Int):=(spec_l1Cur_pick.f s0_0 s0_1 s0_2 4).bind fun bt143=>((spec_l1Cur_pick.f s0_0 bt143.2.1 bt143.2.2 4).bind fun bt146=>((spec_l1Cur_matrix.f k s0_0 bt146.2.1 bt146.2.2 (wrap64 (1+bt143.1)) (wrap64 (1+bt146.1))).bind fun bt149=>((spec_l1Cur_pick.f s0_0 bt149.2.1 bt149.2.2 3).bind fun bt155=>((spec_l1Cur_chosen.f k s0_0 bt155.2.1 bt155.2.2 (bt149.1.length:Int) (wrap64 (1+bt155.1))).bind fun bt158=>(if 0 < (bt149.1.length:Int) then ((spec_l1Cur_pick.f s0_0 bt158.2.1 bt158.2.2 4).bind fun bt164=>((spec_l1Cur_chosen.f k s0_0 bt164.2.1 bt164.2.2 ((rd_L1 bt149.1 0).length:Int) bt164.1).bind fun bt167=>(some (bt149.1,bt158.1,bt167.1,bt167.2.1,bt167.2.2)))) else (none))))))
theorem spec_DrawPartOf.monog:∀ a0 a1 a2 k,LeO (spec_DrawPartOf.g k a0 a1 a2) (spec_DrawPartOf.g (k+1) a0 a1 a2):=by
 intro a0 a1 a2 k
 unfold spec_DrawPartOf.g
 exact mm
def spec_DrawPartOf.T3:Bool × List (List Nat × List Nat):=(true,[([],[]),([],[]),([1],[1]),([2],[2]),([],[]),([4],[4]),([5],[5]),([0,3,6,5],[0,3,6]),([7,7,0,1,2,3,4,5,6,7],[7])])
def spec_DrawPartOf.B3:List Nat:=[0,0,2,6,0,16,48,127,255]
theorem spec_DrawPartOf.tab3:rtab .any (opsOf Try.f41 3)=spec_DrawPartOf.T3:=by kernel_rfl
theorem spec_DrawPartOf.bits3:waitsOk spec_DrawPartOf.T3.2 spec_DrawPartOf.B3=true:=by kernel_rfl
def spec_DrawPartOf.T4:Bool × List (List Nat × List Nat):=(true,[([],[]),([],[]),([1],[1]),([2],[2]),([3],[3]),([4],[4]),([],[]),([6],[6]),([0,5,7,7],[0,5,7]),([8,8,0,1,2,3,4,5,6,7,8],[8])])
def spec_DrawPartOf.B4:List Nat:=[0,0,2,6,14,30,0,64,255,511]
theorem spec_DrawPartOf.tab4:rtab .any (opsOf Try.f41 4)=spec_DrawPartOf.T4:=by kernel_rfl
theorem spec_DrawPartOf.bits4:waitsOk spec_DrawPartOf.T4.2 spec_DrawPartOf.B4=true:=by kernel_rfl
def spec_DrawPartOf.f (k:Nat) (l0:List Int):Option ((List (List Int)) × List Int × List Int):=(spec_DrawPartOf.g k l0 0 0).bind fun b=>some (b.1,b.2.1,b.2.2.1)
theorem spec_DrawPartOf.mono:∀ a0 k,LeO (spec_DrawPartOf.f k a0) (spec_DrawPartOf.f (k+1) a0):=fun a0 k=>LeO.bind (spec_DrawPartOf.monog _ _ _ k) (fun _=>LeO.refl _)
theorem spec_DrawPartOf.calls (k:Nat) (A0:Option Addr) (c0:Nat) (l0:List Int) (p1:(List (List Int))) (p2:List Int) (p3:List Int) (w0:World) (hr0:Kd.C (Kd.int .u8) w0 A0 l0.length l0) (hc0:l0.length≤c0) (h:spec_DrawPartOf.f k l0=some (p1,p2,p3)) :
  Calls Try.prog 41 #[.slice A0 l0.length c0] w0 fun e w'=>∃ v0_ v1_ v2_:Value,e = .returned (.tuple #[.agg #[v0_],v1_,v2_])∧Kd.S (Kd.slice 5 (Kd.int .u8)) 24 w' w0.heap.size (fun _=>True) v0_ p1∧Kd.R (Kd.int .i64) 3 w' w0.heap.size (fun k_=>some k_ ≠ (v2_:Value).ownBlock) v1_ p2∧Kd.R (Kd.int .i64) 3 w' w0.heap.size (fun k_=>some k_ ≠ (v1_:Value).ownBlock) v2_ p3∧Below w0.heap.size w0 w':=by
 unfold spec_DrawPartOf.f at h
 obtain ⟨⟨r1,r2,r3,r4,r5⟩,hG_,he_⟩:=Option.bind_eq_some_iff.mp h
 clear h
 have h:=hG_
 clear hG_
 simp only [Option.some.injEq,Prod.mk.injEq] at he_
 obtain ⟨rfl,rfl,rfl⟩:=he_
 have HR:=am hr0
 clear hr0 hc0
 have HB:=am (Below.refl w0.heap.size w0)
 have HL:=am (Nat.le_refl w0.heap.size)
 have HW0:=HL
 have hu127:=Try.underlying127
 have hu27:=Try.underlying27
 have H:=h
 unfold spec_DrawPartOf.f at H
 clear h
 obtain ⟨⟨t143,t144,t145⟩,A2,H⟩:=yo H
 try dsimp only at H
 obtain ⟨⟨t146,t147,t148⟩,A3,H⟩:=yo H
 try dsimp only at H
 obtain ⟨⟨t149,t152,t153⟩,A4,H⟩:=yo H
 try dsimp only at H
 obtain ⟨⟨t155,t156,t157⟩,A5,H⟩:=yo H
 try dsimp only at H
 obtain ⟨⟨t158,t161,t162⟩,A6,H⟩:=yo H
 try dsimp only at H
 by_cases c7:0 < (t149.length:Int)
 ·rw [if_pos c7] at H
  have c7b0:=decide_eq_true c7
  have c7b1:decide (0 < t149.length)=true:=decide_eq_true d13
  clear c7
  obtain ⟨⟨t164,t165,t166⟩,A8,H⟩:=yo H
  try dsimp only at H
  obtain ⟨⟨t167,t170,t171⟩,A9,H⟩:=yo H
  try dsimp only at H
  simp only [Option.some.injEq,Prod.mk.injEq] at H
  obtain ⟨rfl,rfl,rfl,rfl,rfl⟩:=H
  go_enter Try.func41,Try.ntmps41
  try go_wp2_with (first|((with_reducible refine gD 11 ?_);refine gB (cs:=#[.slice A0 l0.length c0, .int .i64 0, .int .u64 0]) 127 ?_;intro g hg wS hbox hb;have n0_:=yH HB hb;have HI0:=am (show IsS127 w0 _ g l0 0 0 from ⟨A0,c0,hbox,by rw [hg];exact pz (yW HB),HR.out⟩);have m0_:=yb BK142 hb;have NB0_142:=yg BK142 hg;have NB142_0:=am (Ne.symm NB0_142.out);clear BK142;have BK142:=m0_;clear m0_ HB;have HB:=n0_;clear n0_;have HK:=am (KeepBut.of_below HB.out g none);clear hb hbox hg)|((with_reducible refine gD 2 ?_);refine gB (cs:=#[.slice none 0 0]) 27 ?_;intro gb142 hg w10 hbox hb;have n2_:=am (pu d6 hb);have n3_:=am (hbox);have n4_:=am ((by rw [hg];exact (pz (yW HB)):w0.heap.size≤gb142));have n5_:=n4_;clear HB;have HB:=n2_;have BK142:=n3_;have GW142:=n4_;have GE142:=n5_;clear n2_ n3_ n4_ n5_ hb hbox hg)|((with_reducible refine gC 95 ?_);refine gM (some 14) Try.func95 (args:=#[.pointer (some ⟨g,0,none⟩), .int .i64 4]) (spec_l1Cur_pick.calls g l0 0 0 4 t143 t144 t145 w0 _ ?side1 ?side2 A2.out) ?_;(case side1=>repeat (first|(with_reducible first|exact HI0.out|apply IsS127.alloc|apply IsS127.drewN|apply IsS127.drew|apply IsS127.set_1|apply IsS127.set_2|refine IsS127.far ?_ NB0_142.out _)|exact HI0.out));(case side2=>repeat (first|(with_reducible first|exact HB.out|apply pa|apply pb|apply pd|refine pt ?_ (IsS127.ge HI0.out)|refine pt ?_ GE142.out)|exact HB.out));rintro e w11 ⟨rfl,hi,hb,hk⟩;refine ⟨_,rfl,?_⟩;replace BK142:=am (KeepBut.blk hk (g':=gb142) (o:=.cells #[.slice none 0 0] 27 (0,0)) (yB BK142) NB142_0.out d41);replace HK:=am (KeepBut.trans d14 hk (.inl rfl));replace HB:=am (hb);replace HI0:=am (hi);clear hb hk hi)|((with_reducible refine gC 95 ?_);refine gM (some 17) Try.func95 (args:=#[.pointer (some ⟨g,0,none⟩), .int .i64 4]) (spec_l1Cur_pick.calls g l0 t144 t145 4 t146 t147 t148 w0 _ ?side1 ?side2 A3.out) ?_;(case side1=>repeat (first|(with_reducible first|exact HI0.out|apply IsS127.alloc|apply IsS127.drewN|apply IsS127.drew|apply IsS127.set_1|apply IsS127.set_2|refine IsS127.far ?_ NB0_142.out _)|exact HI0.out));(case side2=>repeat (first|(with_reducible first|exact HB.out|apply pa|apply pb|apply pd|refine pt ?_ (IsS127.ge HI0.out)|refine pt ?_ GE142.out)|exact HB.out));rintro e w12 ⟨rfl,hi,hb,hk⟩;refine ⟨_,rfl,?_⟩;replace BK142:=am (KeepBut.blk hk (g':=gb142) (o:=.cells #[.slice none 0 0] 27 (0,0)) (yB BK142) NB142_0.out d41);replace HK:=am (KeepBut.trans d14 hk (.inl rfl));replace HB:=am (hb);replace HI0:=am (hi);clear hb hk hi)|((with_reducible refine gC 94 ?_);refine gM (some 19) Try.func94 (args:=#[.pointer (some ⟨g,0,none⟩), .int .i64 (wrap64 (1+t143)), .int .i64 (wrap64 (1+t146))]) (spec_l1Cur_matrix.calls k g l0 t147 t148 (wrap64 (1+t143)) (wrap64 (1+t146)) t149 t152 t153 w0 _ ?side1 ?side2 A4.out) ?_;(case side1=>repeat (first|(with_reducible first|exact HI0.out|apply IsS127.alloc|apply IsS127.drewN|apply IsS127.drew|apply IsS127.set_1|apply IsS127.set_2|refine IsS127.far ?_ NB0_142.out _)|exact HI0.out));(case side2=>repeat (first|(with_reducible first|exact HB.out|apply pa|apply pb|apply pd|refine pt ?_ (IsS127.ge HI0.out)|refine pt ?_ GE142.out)|exact HB.out));rintro e w13 ⟨v150,rfl,ho0,hi,hb,hk⟩;refine ⟨_,rfl,?_⟩;replace BK142:=am (KeepBut.blk hk (g':=gb142) (o:=.cells #[.slice none 0 0] 27 (0,0)) (yB BK142) NB142_0.out d41);have HO151:=am (Kd.S_lower ho0 (keep_size (w:=w0) (g:=g) (row:=none) d14));replace HK:=am (KeepBut.trans d14 hk (.inl rfl));replace HB:=am (hb);replace HI0:=am (hi);clear hb hk hi ho0)|((with_reducible refine gD 6 ?_);refine gB (cs:=#[.slice none 0 0]) 27 ?_;intro gb154 hg w14 hbox hb;replace HO151:=bS HO151 hb;replace HB:=am (pu (by repeat (first|(with_reducible first|exact HB.out|apply pa|apply pb|apply pd|refine pt ?_ (IsS127.ge HI0.out)|refine pt ?_ GE142.out)|exact HB.out)) hb);have BK154:=am (hbox);have GW154:=am ((by rw [hg];exact (keep_size (w:=w0) (g:=g) (row:=none) d14):w0.heap.size≤gb154));have GE154:=am ((Nat.le_trans HW0.out (by rw [hg];exact (keep_size (w:=w0) (g:=g) (row:=none) d14):w0.heap.size≤gb154):w0.heap.size≤gb154));replace HK:=am (KeepBut.trans d14 (KeepBut.of_below hb g none) (.inl rfl));have NB142_154:=yl BK142 hg;have NB154_142:=yg BK142 hg;replace BK142:=yb BK142 hb;have NB0_154:=am ((by rw [hg];exact Nat.ne_of_lt (IsS127.lt (show IsS127 w0 _ g l0 t152 t153 from by repeat (first|(with_reducible first|exact HI0.out|apply IsS127.alloc|apply IsS127.drewN|apply IsS127.drew|apply IsS127.set_1|apply IsS127.set_2|refine IsS127.far ?_ NB0_142.out _)|exact HI0.out))):g ≠ gb154));have NB154_0:=am ((by rw [hg];exact Nat.ne_of_gt (IsS127.lt (show IsS127 w0 _ g l0 t152 t153 from by repeat (first|(with_reducible first|exact HI0.out|apply IsS127.alloc|apply IsS127.drewN|apply IsS127.drew|apply IsS127.set_1|apply IsS127.set_2|refine IsS127.far ?_ NB0_142.out _)|exact HI0.out))):gb154 ≠ g));replace HI0:=am (IsS127.below (by repeat (first|(with_reducible first|exact HI0.out|apply IsS127.alloc|apply IsS127.drewN|apply IsS127.drew|apply IsS127.set_1|apply IsS127.set_2|refine IsS127.far ?_ NB0_142.out _)|exact HI0.out)) hb);clear hb hbox hg;obtain ⟨Ao15,co15,eo15⟩:=Kd.S_slice HO151.out;subst eo15;have hnb16:=NB154_142.out;have hnc16:=NB142_154.out;have hnb17:=NB154_0.out;have hnc17:=NB0_154.out;obtain ⟨hcz18_0,hfz18_0⟩:=yk1 BK154))
  generalize hw_:(w14.setCell ⟨gb154,0,none⟩ (.slice Ao15 t149.length co15))=w19
  replace HO151:Aside0 (Kd.S (Kd.slice 5 (Kd.int .u8)) 24 w19 w0.heap.size (fun _=>True) (.slice Ao15 t149.length co15) t149):=⟨by rw [← hw_];refine sS ?_;exact Kd.S_mono (Kd.S_far (p:=⟨gb154,0,none⟩) (Kd.S_types HO151.out BK154.out d9) (fun _ hk=>hk.2) (.slice Ao15 t149.length co15)) (fun _ hk=>trivial)⟩
  replace BK142:Aside0 (w19.heap[gb142]? = some (.cells #[.slice none 0 0] 27 (0,0))):=⟨by rw [← hw_];exact yF BK142⟩
  replace BK154:Aside0 (w19.heap[gb154]? = some (.cells #[.slice Ao15 t149.length co15] 27 (0,0))):=⟨by rw [← hw_];refine sB ?_;refine blk_put (cs:=#[.slice none 0 0]) ?_ 0 _ rfl;exact yB BK154⟩
  replace HK:Aside0 (KeepBut w0 w19 g none):=⟨by rw [← hw_];repeat (first|(with_reducible first|exact HK.out|apply KeepBut.set_|apply keep_drewN|apply keep_drew|apply keep_alloc|refine keep_far ?_ GW142.out _|refine keep_far ?_ GW154.out _)|exact HK.out)⟩
  replace HB:Aside0 (Below w0.heap.size w0 w19):=⟨by rw [← hw_];repeat (first|(with_reducible first|exact HB.out|apply pa|apply pb|apply pd|refine pt ?_ (IsS127.ge HI0.out)|refine pt ?_ GE142.out|refine pt ?_ GE154.out)|exact HB.out)⟩
  replace HI0:Aside0 (IsS127 w0 w19 g l0 t152 t153):=⟨by rw [← hw_];repeat (first|(with_reducible first|exact HI0.out|apply IsS127.alloc|apply IsS127.drewN|apply IsS127.drew|apply IsS127.set_1|apply IsS127.set_2|refine IsS127.far ?_ NB0_142.out _|refine IsS127.far ?_ NB0_154.out _)|exact HI0.out)⟩
  clear hw_
  replace HO151:=am (Kd.S_drew HO151.out)
  replace BK142:=am (qd BK142.out)
  replace BK154:=am (qd BK154.out)
  replace HI0:=am (IsS127.drew HI0.out)
  replace HK:=am (keep_drew HK.out)
  replace HB:=am (pd HB.out)
  refine rS (n:=9) (S:=fun w'=>w'.cell? ⟨gb154,0,none⟩=some (.slice Ao15 t149.length co15)) (ds:=[]) [(0,20),(1,21),(4,24),(2,22),(3,23),(5,0),(6,26),(7,0),(8,7)] d12 rfl spec_DrawPartOf.tab3 spec_DrawPartOf.bits3 (yk BK154 0) (fun hHeld HT_ HW_=>?_)
  generalize w19.drew=w20 at HO151 BK142 BK154 HI0 HK HB hHeld ⊢
  refine rR ?_
  refine rO (N:=some 25) HT_ rfl rfl d12 d9 (fun K hK=>?_)
  refine goes_ Try.func95 d12 rfl #[.pointer (some ⟨g,0,none⟩), .int .i64 3] d20 rfl rfl d18 ?_
  with_reducible refine (spec_l1Cur_pick.calls g l0 t152 t153 3 t155 t156 t157 w0 _ ?side1 ?side2 A5.out).mono ?_
  (case side1=>repeat (first|(with_reducible first|exact HI0.out|apply IsS127.alloc|apply IsS127.drewN|apply IsS127.drew|apply IsS127.set_1|apply IsS127.set_2|refine IsS127.far ?_ NB0_142.out _|refine IsS127.far ?_ NB0_154.out _)|exact HI0.out))
  (case side2=>repeat (first|(with_reducible first|exact HB.out|apply pa|apply pb|apply pd|refine pt ?_ (IsS127.ge HI0.out)|refine pt ?_ GE142.out|refine pt ?_ GE154.out)|exact HB.out))
  rintro e w21 ⟨rfl,hi,hb,hk⟩
  refine ⟨_,rfl,?_⟩
  replace BK142:=am (KeepBut.blk hk (g':=gb142) (o:=.cells #[.slice none 0 0] 27 (0,0)) (yB BK142) NB142_0.out d41)
  replace HO151:=am (Kd.S_mono (Kd.S_keep (IsS127.apartS (show IsS127 w0 _ g l0 t152 t153 from by repeat (first|(with_reducible first|exact HI0.out|apply IsS127.alloc|apply IsS127.drewN|apply IsS127.drew|apply IsS127.set_1|apply IsS127.set_2|refine IsS127.far ?_ NB0_142.out _|refine IsS127.far ?_ NB0_154.out _)|exact HI0.out)) (yS HO151) d9) hk (fun _ h=>h.2)) (fun _ h=>h.1))
  replace BK154:=am (KeepBut.blk hk (g':=gb154) (o:=.cells #[.slice Ao15 t149.length co15] 27 (0,0)) (yB BK154) NB154_0.out d41)
  replace HK:=am (KeepBut.trans d15 hk (.inl rfl))
  replace HB:=am (hb)
  replace HI0:=am (hi)
  (try clear hb)
  (try clear hb2)
  (try clear hk)
  (try clear hi)
  refine hK.out _ _ (yk BK154 0) (fun hHeld=>?_)
  clear hK K
  refine rN (a':=?_) ?_ ?_
  rotate_left
  ·show Act.put _ (some 25) _=_
   simp only [Act.put,q1,q2,q3,i64_w,i32_w]
   rfl
  refine rR ?_
  refine rO (N:=some 27) HT_ rfl rfl d12 d9 (fun K hK=>?_)
  refine goes_ Try.func96 d12 rfl #[.pointer (some ⟨g,0,none⟩), .int .i64 (t149.length:Int), .int .i64 (wrap64 (1+t155))] d20 rfl rfl d18 ?_
  with_reducible refine (spec_l1Cur_chosen.calls k g l0 t156 t157 (t149.length:Int) (wrap64 (1+t155)) t158 t161 t162 w0 _ ?side1 ?side2 A6.out).mono ?_
  (case side1=>repeat (first|(with_reducible first|exact HI0.out|apply IsS127.alloc|apply IsS127.drewN|apply IsS127.drew|apply IsS127.set_1|apply IsS127.set_2|refine IsS127.far ?_ NB0_142.out _|refine IsS127.far ?_ NB0_154.out _)|exact HI0.out))
  (case side2=>repeat (first|(with_reducible first|exact HB.out|apply pa|apply pb|apply pd|refine pt ?_ (IsS127.ge HI0.out)|refine pt ?_ GE142.out|refine pt ?_ GE154.out)|exact HB.out))
  rintro e w22 ⟨v159,rfl,ho0,hi,hb,hk⟩
  refine ⟨_,rfl,?_⟩
  replace BK142:=am (KeepBut.blk hk (g':=gb142) (o:=.cells #[.slice none 0 0] 27 (0,0)) (yB BK142) NB142_0.out d41)
  replace HO151:=am (Kd.S_mono (Kd.S_keep (IsS127.apartS (show IsS127 w0 _ g l0 t156 t157 from by repeat (first|(with_reducible first|exact HI0.out|apply IsS127.alloc|apply IsS127.drewN|apply IsS127.drew|apply IsS127.set_1|apply IsS127.set_2|refine IsS127.far ?_ NB0_142.out _|refine IsS127.far ?_ NB0_154.out _)|exact HI0.out)) (yS HO151) d9) hk (fun _ h=>h.2)) (fun _ h=>h.1))
  replace BK154:=am (KeepBut.blk hk (g':=gb154) (o:=.cells #[.slice Ao15 t149.length co15] 27 (0,0)) (yB BK154) NB154_0.out d41)
  have HO160:=am (Kd.R_lower ho0 (keep_size (w:=w0) (g:=g) (row:=none) d15))
  replace HK:=am (KeepBut.trans d15 hk (.inl rfl))
  replace HB:=am (hb)
  replace HI0:=am (hi)
  (try clear hb)
  (try clear hb2)
  (try clear hk)
  (try clear hi)
  (try clear ho0)
  refine hK.out _ _ (yk BK154 0) (fun hHeld=>?_)
  clear hK K
  refine rN (a':=?_) ?_ ?_
  rotate_left
  ·show Act.put _ (some 27) _=_
   simp only [Act.put,q1,q2,q3,i64_w,i32_w]
   rfl
  refine rR ?_
  refine rD HT_ d12 ?_
  try go_wp2
  replace HO151:=am (Kd.S_drew HO151.out)
  replace HO160:=am (Kd.R_drew HO160.out)
  replace BK142:=am (qd BK142.out)
  replace BK154:=am (qd BK154.out)
  replace HI0:=am (IsS127.drew HI0.out)
  replace HK:=am (keep_drew HK.out)
  replace HB:=am (pd HB.out)
  have p163:0≤(0:Int):=d13
  have q163:0 < (t149.length:Int):=od d1
  obtain ⟨ad163,A163_0,c163_0,e163,hx163_0,hl163_0,hi163_0⟩:=at_L1 (Kd.S_reads' HO151.out).2.2 0 p163 q163
  cases e163
  obtain ⟨ce163,hce163,hMe163,hcc163⟩:=Kd.S_get HO151.out [] 0 p163 (by first|exact q163|exact od d1|(have e_:=(Kd.S_reads' HO151.out).1;omega))
  obtain ⟨ve163_0,rfl,ge163_0⟩:=hMe163
  have hv163_0:=hcc163 0 _ rfl
  rw [Nat.add_zero,show ((Kd.slice 5 (Kd.int .u8))).sz=1 from rfl,Nat.mul_one] at hv163_0
  replace hv163_0:=Option.some.inj (hv163_0.symm.trans hx163_0)
  rw [hv163_0] at ge163_0
  have HL163_0:=am (show Kd.R (Kd.int .u8) 5 _ _ _ _ (rd_L1 t149 0) from ge163_0)
  clear hv163_0 ge163_0
  clear hcc163 hce163
  have qi163:(0 < t149.length)=True:=eq_true d13
  (try rw [show ((0:Int)).toNat=0 from rfl] at hx163_0)
  (try rw [Addr.add_zero'] at hx163_0)
  have HR163_0:=am hi163_0
  have HC163_0:=am hl163_0
  clear hi163_0 hl163_0
  replace p163:=eq_true p163
  replace q163:=eq_true q163
  refine rS (n:=10) (S:=fun w'=>w'.cell? ⟨gb154,0,none⟩=some (.slice (some ad163) t149.length co15)∧w'.cell? ad163=some (.slice A163_0 (rd_L1 t149 0).length c163_0)) (ds:=[]) [(0,28),(1,29),(6,34),(2,30),(3,31),(4,32),(5,33),(7,0),(8,0),(9,8)] d12 rfl spec_DrawPartOf.tab4 spec_DrawPartOf.bits4 ⟨yk BK154 0,hx163_0⟩ (fun hHeld HT_ HW_=>?_)
  generalize w22.drew=w23 at HO151 HO160 BK142 BK154 HI0 HK HB HL163_0 HR163_0 hx163_0 hHeld ⊢
  refine rR ?_
  refine rO (N:=some 35) HT_ rfl rfl d12 d9 (fun K hK=>?_)
  refine goes_ Try.func95 d12 rfl #[.pointer (some ⟨g,0,none⟩), .int .i64 4] d20 rfl rfl d18 ?_
  with_reducible refine (spec_l1Cur_pick.calls g l0 t161 t162 4 t164 t165 t166 w0 _ ?side1 ?side2 A8.out).mono ?_
  (case side1=>repeat (first|(with_reducible first|exact HI0.out|apply IsS127.alloc|apply IsS127.drewN|apply IsS127.drew|apply IsS127.set_1|apply IsS127.set_2|refine IsS127.far ?_ NB0_142.out _|refine IsS127.far ?_ NB0_154.out _)|exact HI0.out))
  (case side2=>repeat (first|(with_reducible first|exact HB.out|apply pa|apply pb|apply pd|refine pt ?_ (IsS127.ge HI0.out)|refine pt ?_ GE142.out|refine pt ?_ GE154.out)|exact HB.out))
  rintro e w24 ⟨rfl,hi,hb,hk⟩
  have HS1_:=keep_cell hk (hHeld.2) d49
  refine ⟨_,rfl,?_⟩
  replace BK142:=am (KeepBut.blk hk (g':=gb142) (o:=.cells #[.slice none 0 0] 27 (0,0)) (yB BK142) NB142_0.out d41)
  replace HO151:=am (Kd.S_mono (Kd.S_keep (IsS127.apartS (show IsS127 w0 _ g l0 t161 t162 from by repeat (first|(with_reducible first|exact HI0.out|apply IsS127.alloc|apply IsS127.drewN|apply IsS127.drew|apply IsS127.set_1|apply IsS127.set_2|refine IsS127.far ?_ NB0_142.out _|refine IsS127.far ?_ NB0_154.out _)|exact HI0.out)) (yS HO151) d9) hk (fun _ h=>h.2)) (fun _ h=>h.1))
  replace BK154:=am (KeepBut.blk hk (g':=gb154) (o:=.cells #[.slice (some ad163) t149.length co15] 27 (0,0)) (yB BK154) NB154_0.out d41)
  replace HO160:=am (Kd.R_mono (Kd.R_keep (IsS127.apart (show IsS127 w0 _ g l0 t161 t162 from by repeat (first|(with_reducible first|exact HI0.out|apply IsS127.alloc|apply IsS127.drewN|apply IsS127.drew|apply IsS127.set_1|apply IsS127.set_2|refine IsS127.far ?_ NB0_142.out _|refine IsS127.far ?_ NB0_154.out _)|exact HI0.out)) (yR HO160) d9) hk (fun _ h=>h.2)) (fun _ h=>h.1))
  replace HL163_0:=am (Kd.R_mono (Kd.R_keep (IsS127.apart (show IsS127 w0 _ g l0 t161 t162 from by repeat (first|(with_reducible first|exact HI0.out|apply IsS127.alloc|apply IsS127.drewN|apply IsS127.drew|apply IsS127.set_1|apply IsS127.set_2|refine IsS127.far ?_ NB0_142.out _|refine IsS127.far ?_ NB0_154.out _)|exact HI0.out)) (yR HL163_0) d9) hk (fun _ h=>h.2)) (fun _ h=>h.1))
  replace HK:=am (KeepBut.trans d15 hk (.inl rfl))
  replace HB:=am (hb)
  replace HI0:=am (hi)
  (try clear hb)
  (try clear hb2)
  (try clear hk)
  (try clear hi)
  refine hK.out _ _ ⟨yk BK154 0,HS1_⟩ (fun hHeld=>?_)
  clear hK K
  refine rN (a':=?_) ?_ ?_
  rotate_left
  ·show Act.put _ (some 35) _=_
   simp only [Act.put,q1,q2,q3,i64_w,i32_w]
   rfl
  refine rO (N:=some 36) HT_ rfl rfl d12 d9 (fun K hK=>?_)
  refine goes_ Try.func96 d12 rfl #[.pointer (some ⟨g,0,none⟩), .int .i64 ((rd_L1 t149 0).length:Int), .int .i64 t164] d20 rfl rfl d18 ?_
  with_reducible refine (spec_l1Cur_chosen.calls k g l0 t165 t166 ((rd_L1 t149 0).length:Int) t164 t167 t170 t171 w0 _ ?side1 ?side2 A9.out).mono ?_
  (case side1=>repeat (first|(with_reducible first|exact HI0.out|apply IsS127.alloc|apply IsS127.drewN|apply IsS127.drew|apply IsS127.set_1|apply IsS127.set_2|refine IsS127.far ?_ NB0_142.out _|refine IsS127.far ?_ NB0_154.out _)|exact HI0.out))
  (case side2=>repeat (first|(with_reducible first|exact HB.out|apply pa|apply pb|apply pd|refine pt ?_ (IsS127.ge HI0.out)|refine pt ?_ GE142.out|refine pt ?_ GE154.out)|exact HB.out))
  rintro e w25 ⟨v168,rfl,ho0,hi,hb,hk⟩
  have HS1_:=keep_cell hk (hHeld.2) d49
  refine ⟨_,rfl,?_⟩
  replace BK142:=am (KeepBut.blk hk (g':=gb142) (o:=.cells #[.slice none 0 0] 27 (0,0)) (yB BK142) NB142_0.out d41)
  replace HO151:=am (Kd.S_mono (Kd.S_keep (IsS127.apartS (show IsS127 w0 _ g l0 t165 t166 from by repeat (first|(with_reducible first|exact HI0.out|apply IsS127.alloc|apply IsS127.drewN|apply IsS127.drew|apply IsS127.set_1|apply IsS127.set_2|refine IsS127.far ?_ NB0_142.out _|refine IsS127.far ?_ NB0_154.out _)|exact HI0.out)) (yS HO151) d9) hk (fun _ h=>h.2)) (fun _ h=>h.1))
  replace BK154:=am (KeepBut.blk hk (g':=gb154) (o:=.cells #[.slice (some ad163) t149.length co15] 27 (0,0)) (yB BK154) NB154_0.out d41)
  replace HL163_0:=am (Kd.R_mono (Kd.R_keep (IsS127.apart (show IsS127 w0 _ g l0 t165 t166 from by repeat (first|(with_reducible first|exact HI0.out|apply IsS127.alloc|apply IsS127.drewN|apply IsS127.drew|apply IsS127.set_1|apply IsS127.set_2|refine IsS127.far ?_ NB0_142.out _|refine IsS127.far ?_ NB0_154.out _)|exact HI0.out)) (yR HL163_0) d9) hk (fun _ h=>h.2)) (fun _ h=>h.1))
  have HO169:=am (Kd.R_lower (Kd.R_new' ho0 (Kd.R_lt (yR HO160))) (keep_size (w:=w0) (g:=g) (row:=none) d15))
  replace HO160:=am (Kd.R_mono (Kd.R_told (Kd.R_oldK (IsS127.apart (show IsS127 w0 _ g l0 t165 t166 from by repeat (first|(with_reducible first|exact HI0.out|apply IsS127.alloc|apply IsS127.drewN|apply IsS127.drew|apply IsS127.set_1|apply IsS127.set_2|refine IsS127.far ?_ NB0_142.out _|refine IsS127.far ?_ NB0_154.out _)|exact HI0.out)) (yR HO160) d9) hk) (Kd.R_base ho0)) (fun _ h_=>h_.1))
  replace HK:=am (KeepBut.trans d15 hk (.inl rfl))
  replace HB:=am (hb)
  replace HI0:=am (hi)
  (try clear hb)
  (try clear hb2)
  (try clear hk)
  (try clear hi)
  (try clear ho0)
  refine hK.out _ _ ⟨yk BK154 0,HS1_⟩ (fun hHeld=>?_)
  clear hK K
  refine rN (a':=?_) ?_ ?_
  rotate_left
  ·show Act.put _ (some 36) _=_
   simp only [Act.put,q1,q2,q3,i64_w,i32_w]
   rfl
  refine rR ?_
  refine rD HT_ d12 ?_
  obtain ⟨hcz26_0,hfz26_0⟩:=yk1 BK154
  have hnb27:=NB142_0.out
  have hnc27:=NB0_142.out
  obtain ⟨hcz28_0,hfz28_0⟩:=yk1 BK142
  try go_wp2
  refine bodyPost_ret (results_ctt rfl _ _ gb142 27 #[.slice (some ad163) t149.length co15] (0,0) _ rfl (by refine sB ?_;refine blk_put (cs:=#[.slice none 0 0]) ?_ 0 _ rfl;exact yB BK142) Try.underlying27 rfl d12) rfl ?_
  exact ⟨_,_,_,d2,by refine sS ?_;exact Kd.S_mono (Kd.S_far (p:=⟨gb142,0,none⟩) (Kd.S_types HO151.out BK142.out d9) (fun _ hk=>hk.2) (.slice (some ad163) t149.length co15)) (fun _ hk=>trivial),by refine sR ?_;exact Kd.R_mono (Kd.R_far (p:=⟨gb142,0,none⟩) (Kd.R_types HO160.out BK142.out d9) (fun _ hk=>hk.2) (.slice (some ad163) t149.length co15)) (fun _ hk=>hk.1.2),by refine sR ?_;exact Kd.R_mono (Kd.R_far (p:=⟨gb142,0,none⟩) (Kd.R_types HO169.out BK142.out d9) (fun _ hk=>hk.2) (.slice (some ad163) t149.length co15)) (fun _ hk=>hk.1.2),by repeat (first|(with_reducible first|exact HB.out|apply pa|apply pb|apply pd|refine pt ?_ (IsS127.ge HI0.out)|refine pt ?_ GE142.out|refine pt ?_ GE154.out)|exact HB.out)⟩
 rw [if_neg c7] at H
 exact absurd H d41
mutual
def spec_GoodMatrix.j0:Nat→Bool→List (List Int)→Option (Bool)
 | 0,_,_=>none
 | k+1,x18,x291000=>if x18=true then (some false) else (spec_GoodMatrix.l0 k x291000 (x291000.length:Int) 0 x291000)
def spec_GoodMatrix.l0:Nat→List (List Int)→Int→Int→List (List Int)→Option (Bool)
 | 0,_,_,_,_=>none
 | k+1,x20,x21,x22,x291000=>if x22 < x21 then (if 0≤x22 then (if x22 < (x20.length:Int) then (if 0 < (x291000.length:Int) then (if ((rd_L1 x20 x22).length:Int)=((rd_L1 x291000 0).length:Int) then (spec_GoodMatrix.l0 k x20 x21 (wrap64 (x22+1)) x291000) else (some false)) else (none)) else (none)) else (none)) else (some true)
end
def spec_GoodMatrix.f (k:Nat) (l0_0:List (List Int)):Option (Bool):=(spec_l1In.f (l0_0.length:Int) 1 16).bind fun t291=>(if t291=true then (if 0 < (l0_0.length:Int) then ((spec_l1In.f ((rd_L1 l0_0 0).length:Int) 1 16).bind fun t293=>(spec_GoodMatrix.j0 k (!t293) l0_0)) else (none)) else (spec_GoodMatrix.j0 k true l0_0))
theorem spec_GoodMatrix.mono_l:∀ k,(∀ y0 y1,LeO (spec_GoodMatrix.j0 k y0 y1) (spec_GoodMatrix.j0 (k+1) y0 y1))∧(∀ y0 y1 y2 y3,LeO (spec_GoodMatrix.l0 k y0 y1 y2 y3) (spec_GoodMatrix.l0 (k+1) y0 y1 y2 y3))
 | 0=>⟨fun _ _ r h=>by simp [spec_GoodMatrix.j0] at h,fun _ _ _ _ r h=>by simp [spec_GoodMatrix.l0] at h⟩
 | k+1=>by
  obtain ⟨ih0,ih1⟩:=spec_GoodMatrix.mono_l k
  refine ⟨?_,?_⟩
  ·intro y0 y1
   unfold spec_GoodMatrix.j0
   exact mm
  intro y0 y1 y2 y3
  unfold spec_GoodMatrix.l0
  exact mm
theorem spec_GoodMatrix.mono:∀ a0 k,LeO (spec_GoodMatrix.f k a0) (spec_GoodMatrix.f (k+1) a0):=by
 intro a0 k
 obtain ⟨ih0,ih1⟩:=spec_GoodMatrix.mono_l k
 unfold spec_GoodMatrix.f
 exact mm
theorem spec_GoodMatrix.calls (k:Nat) (A0_0:Option Addr) (c0_0:Nat) (l0_0:List (List Int)) (r:Bool) (w:World) (hr0_0:Kd.C (Kd.slice 5 (Kd.int .u8)) w A0_0 l0_0.length l0_0) (hc0_0:l0_0.length≤c0_0) (h:spec_GoodMatrix.f k l0_0=some r) :
  Calls Try.prog 97 #[.agg #[.slice A0_0 l0_0.length c0_0]] w fun e w'=>e = .returned (.bool r)∧Below w.heap.size w w':=by
 have hu27:=Try.underlying27
 have HR0_0:=am hr0_0
 have HC0_0:=am hc0_0
 clear hr0_0 hc0_0
 have HB:=am (Below.refl w.heap.size w)
 have H:=h
 unfold spec_GoodMatrix.f at H
 clear h
 have HC2:=am H
 clear H
 go_enter Try.func97,Try.ntmps97
 go_upto_region 1 with (first|((with_reducible refine gD 1 ?_);(try (refine gate_guard d20 ?_;dsimp only));refine gB (cs:=#[.slice A0_0 l0_0.length c0_0]) 27 ?_;intro gb290 hg w3 hbox hb;have BK290:=am (hbox);have GW290:=ye HB hg;replace HB:=yH HB hb;have GE290:=GW290;clear hb hbox hg))
 (try simp only [Act.put,q1,q2,q3])
 go_cut [18] (fun v18 wc=>∃ (kq:Nat) (x18_1:Bool),v18 = .bool x18_1∧Aside0 (spec_GoodMatrix.j0 kq x18_1 l0_0=some r)∧Aside0 (kq≤k)∧Aside0 (wc.heap[gb290]? = some (.cells #[(.slice A0_0 l0_0.length c0_0)] 27 (0,0)))∧Aside0 (Below w.heap.size w wc))
 case first =>
  have H:=HC2.out
  clear HC2
  obtain ⟨t291,A4,H⟩:=yo H
  by_cases c5:t291=true
  ·subst c5
   replace H:=yt H
   obtain ⟨c6,H⟩:=yi H
   have c6b0:=decide_eq_true c6
   have c6b1:decide (0 < l0_0.length)=true:=decide_eq_true d13
   clear c6
   (first|rw [c6b0]|(simp only [i64_w,i32_w];rw [c6b0])|skip)
   obtain ⟨t293,A7,H⟩:=yo H
   have H':=am H
   clear H
   obtain ⟨hcz8_0,hfz8_0⟩:=yk1 BK290
   go_wp2_with (first|((with_reducible refine gC 84 ?_);refine gM (some 8) Try.func84 (args:=#[.int .i64 (l0_0.length:Int), .int .i64 1, .int .i64 16]) (spec_l1In.calls (l0_0.length:Int) 1 16 true _ A4.out) ?_;rintro e w' ⟨rfl,⟨nd,rfl⟩⟩;refine ⟨_,rfl,?_⟩;have p292:0≤(0:Int):=d13;have q292:0 < (l0_0.length:Int):=od d1;obtain ⟨ad292,A292_0,c292_0,e292,hx292_0,hl292_0,hi292_0⟩:=at_L1 HR0_0.out 0 p292 q292;cases e292;have qi292:(0 < l0_0.length)=True:=eq_true d13;(try rw [show ((0:Int)).toNat=0 from rfl] at hx292_0);(try rw [Addr.add_zero'] at hx292_0);replace hx292_0:=(HB.out.cell (World.block_lt_of_cell? w _ hx292_0)).trans hx292_0;have HR292_0:=am hi292_0;have HC292_0:=am hl292_0;clear hi292_0 hl292_0;replace p292:=eq_true p292;replace q292:=eq_true q292)|(go_at_call 84;(with_reducible refine (spec_l1In.calls ((rd_L1 l0_0 0).length:Int) 1 16 t293 _ A7.out).mono ?_);rintro e w' ⟨rfl,⟨nd,rfl⟩⟩))
   go_meet
   case rel=>exact ⟨_,(!t293),d3,H',⟨d39⟩,⟨yB BK290⟩,⟨yW HB⟩⟩
  replace c5:=Bool.eq_false_iff.mpr c5
  subst c5
  replace H:=yn H
  have H':=am H
  clear H
  obtain ⟨hcz9_0,hfz9_0⟩:=yk1 BK290
  go_wp2_with (first|((with_reducible refine gC 84 ?_);refine gM (some 8) Try.func84 (args:=#[.int .i64 (l0_0.length:Int), .int .i64 1, .int .i64 16]) (spec_l1In.calls (l0_0.length:Int) 1 16 false _ A4.out) ?_;rintro e w' ⟨rfl,⟨nd,rfl⟩⟩;refine ⟨_,rfl,?_⟩))
  go_meet
  case rel=>exact ⟨_,(true),d3,H',⟨d39⟩,⟨yB BK290⟩,⟨yW HB⟩⟩
 case rest =>
  clear HC2
  try clear c2
  try clear p2
  try clear q2
  try clear hx2
  try clear qi2
  try clear c5
  try clear c6
  try clear c6b0
  try clear c6b1
  try clear c8
  try clear c9
  try clear hcz8_0
  try clear hcz9_0
  try clear hfz8_0
  try clear hfz9_0
  try clear hx292_0
  try clear p292
  try clear q292
  obtain ⟨kq,x18_1,rfl,HA,HJ1,BK290,HB⟩:=hcut
  cases kq with
  | zero=>exact absurd HA.out (by simp [spec_GoodMatrix.j0])
  | succ kj1 =>
   have H:=HA.out
   clear HA
   simp only [spec_GoodMatrix.j0] at H
   by_cases c10:x18_1=true
   ·subst c10
    replace H:=yt H
    obtain rfl:=Option.some.inj H
    go_wp2
    go_ret
    exact ⟨d2,yW HB⟩
   replace c10:=Bool.eq_false_iff.mpr c10
   subst c10
   replace H:=yn H
   have H':=am H
   clear H
   obtain ⟨hcz11_0,hfz11_0⟩:=yk1 BK290
   go_wp2
   go_loopg [22] kj1 (fun kq v22 w'=>∃ (x22_2:Int),v22 = .int .i64 x22_2∧Aside0 (spec_GoodMatrix.l0 kq l0_0 (l0_0.length:Int) x22_2 l0_0=some r)∧Aside0 (kq≤kj1)∧Aside0 (w'.heap[gb290]? = some (.cells #[(.slice A0_0 l0_0.length c0_0)] 27 (0,0)))∧Aside0 (Below w.heap.size w w'))
   case atStart=>exact ⟨(0),d3,H',⟨Nat.le_refl _⟩,⟨yB BK290⟩,⟨yW HB⟩⟩
   case round =>
    clear H'
    try clear c1
    try clear c2
    try clear p2
    try clear q2
    try clear hx2
    try clear qi2
    try clear c5
    try clear c6
    try clear c6b0
    try clear c6b1
    try clear c8
    try clear c9
    try clear c10
    try clear hcz11_0
    try clear hcz8_0
    try clear hcz9_0
    try clear hfz11_0
    try clear hfz8_0
    try clear hfz9_0
    try clear hx292_0
    try clear p2
    try clear p292
    try clear q2
    try clear q292
    obtain ⟨x22_2,rfl,HA,HK2,BK290,HB⟩:=hrel
    cases gk with
    | zero=>exact absurd HA.out (by simp [spec_GoodMatrix.l0])
    | succ k2 =>
     have H:=HA.out
     clear HA
     simp only [spec_GoodMatrix.l0] at H
     by_cases c12:x22_2 < (l0_0.length:Int)
     ·rw [if_pos c12] at H
      have c12b0:=decide_eq_true c12
      clear c12
      obtain ⟨c13,H⟩:=yi H
      have c13b0:=decide_eq_true c13
      clear c13
      obtain ⟨c14,H⟩:=yi H
      have c14b0:=decide_eq_true c14
      clear c14
      obtain ⟨c15,H⟩:=yi H
      have c15b0:=decide_eq_true c15
      have c15b1:decide (0 < l0_0.length)=true:=decide_eq_true d13
      clear c15
      by_cases c16:((rd_L1 l0_0 x22_2).length:Int)=((rd_L1 l0_0 0).length:Int)
      ·rw [if_pos c16] at H
       have c16b0:(((rd_L1 l0_0 x22_2).length:Int) == ((rd_L1 l0_0 0).length:Int))=true:=beq_iff_eq.mpr c16
       have c16b1:(((rd_L1 l0_0 x22_2).length:Int) != ((rd_L1 l0_0 0).length:Int))=false:=bne_eq_false_iff_eq.mpr c16
       have c16b2:((rd_L1 l0_0 x22_2).length == (rd_L1 l0_0 0).length)=true:=by first|simpa using c16|(simp at c16 ⊢;omega)
       clear c16
       have H':=am H
       clear H
       have p294:0≤(x22_2:Int):=od d1
       have q294:x22_2 < (l0_0.length:Int):=od d1
       obtain ⟨ad294,A294_0,c294_0,e294,hx294_0,hl294_0,hi294_0⟩:=at_L1 HR0_0.out x22_2 p294 q294
       cases e294
       replace hx294_0:=(HB.out.cell (World.block_lt_of_cell? w _ hx294_0)).trans hx294_0
       have HR294_0:=am hi294_0
       have HC294_0:=am hl294_0
       clear hi294_0 hl294_0
       replace p294:=eq_true p294
       replace q294:=eq_true q294
       obtain ⟨hcz17_0,hfz17_0⟩:=yk1 BK290
       have p295:0≤(0:Int):=d13
       have q295:0 < (l0_0.length:Int):=od d1
       obtain ⟨ad295,A295_0,c295_0,e295,hx295_0,hl295_0,hi295_0⟩:=at_L1 HR0_0.out 0 p295 q295
       obtain rfl:ad294=ad295:=(by injection e295)
       have qi295:(0 < l0_0.length)=True:=eq_true d13
       (try rw [show ((0:Int)).toNat=0 from rfl] at hx295_0)
       (try rw [Addr.add_zero'] at hx295_0)
       replace hx295_0:=(HB.out.cell (World.block_lt_of_cell? w _ hx295_0)).trans hx295_0
       have HR295_0:=am hi295_0
       have HC295_0:=am hl295_0
       clear hi295_0 hl295_0
       replace p295:=eq_true p295
       replace q295:=eq_true q295
       go_wp2
       go_roundg k2
       case measure=>have:=HJ1.out;have:=HK2.out;omega
       case rel=>exact ⟨(wrap64 (x22_2+1)),d3,H',⟨by have:=HJ1.out;have:=HK2.out;omega⟩,⟨yB BK290⟩,⟨yW HB⟩⟩
      rw [if_neg c16] at H
      have c16b0:(((rd_L1 l0_0 x22_2).length:Int) == ((rd_L1 l0_0 0).length:Int))=false:=beq_eq_false_iff_ne.mpr c16
      have c16b1:(((rd_L1 l0_0 x22_2).length:Int) != ((rd_L1 l0_0 0).length:Int))=true:=bne_iff_ne.mpr c16
      have c16b2:((rd_L1 l0_0 x22_2).length == (rd_L1 l0_0 0).length)=false:=by first|simpa using c16|(simp at c16 ⊢;omega)
      obtain rfl:=Option.some.inj H
      have p294:0≤(x22_2:Int):=od d1
      have q294:x22_2 < (l0_0.length:Int):=od d1
      obtain ⟨ad294,A294_0,c294_0,e294,hx294_0,hl294_0,hi294_0⟩:=at_L1 HR0_0.out x22_2 p294 q294
      cases e294
      replace hx294_0:=(HB.out.cell (World.block_lt_of_cell? w _ hx294_0)).trans hx294_0
      have HR294_0:=am hi294_0
      have HC294_0:=am hl294_0
      clear hi294_0 hl294_0
      replace p294:=eq_true p294
      replace q294:=eq_true q294
      obtain ⟨hcz18_0,hfz18_0⟩:=yk1 BK290
      have p295:0≤(0:Int):=d13
      have q295:0 < (l0_0.length:Int):=od d1
      obtain ⟨ad295,A295_0,c295_0,e295,hx295_0,hl295_0,hi295_0⟩:=at_L1 HR0_0.out 0 p295 q295
      obtain rfl:ad294=ad295:=(by injection e295)
      have qi295:(0 < l0_0.length)=True:=eq_true d13
      (try rw [show ((0:Int)).toNat=0 from rfl] at hx295_0)
      (try rw [Addr.add_zero'] at hx295_0)
      replace hx295_0:=(HB.out.cell (World.block_lt_of_cell? w _ hx295_0)).trans hx295_0
      have HR295_0:=am hi295_0
      have HC295_0:=am hl295_0
      clear hi295_0 hl295_0
      replace p295:=eq_true p295
      replace q295:=eq_true q295
      go_wp2
      go_ret
      exact ⟨d2,yW HB⟩
     rw [if_neg c12] at H
     have c12b0:=decide_eq_false c12
     clear c12
     obtain rfl:=Option.some.inj H
     go_wp2
     go_ret
     exact ⟨d2,yW HB⟩

def spec_l1Some.l0:Nat→List Int→Int→List Int→Int→Int→Option (Bool)
 | 0,_,_,_,_,_=>none
 | k+1,x0,x1,x7,x8,x9=>if x9 < x8 then (if 0≤x9 then (if x9 < (x7.length:Int) then ((spec_l1In.f (rd x7 x9) 0 (wrap64 (x1 - 1))).bind fun t297=>(if t297=true then (if x9 > 0 then (if 0≤(wrap64 (x9 - 1)) then (if (wrap64 (x9 - 1)) < (x0.length:Int) then (if (rd x0 (wrap64 (x9 - 1))) ≥ (rd x7 x9) then (some false) else (spec_l1Some.l0 k x0 x1 x7 x8 (wrap64 (x9+1)))) else (none)) else (none)) else (spec_l1Some.l0 k x0 x1 x7 x8 (wrap64 (x9+1)))) else (some false))) else (none)) else (none)) else (some true)
def spec_l1Some.f (k:Nat) (l0:List Int) (a1:Int):Option (Bool):=spec_l1Some.l0 k l0 a1 l0 (l0.length:Int) 0
theorem spec_l1Some.mono_l:∀ k,(∀ y0 y1 y2 y3 y4,LeO (spec_l1Some.l0 k y0 y1 y2 y3 y4) (spec_l1Some.l0 (k+1) y0 y1 y2 y3 y4))
 | 0=>fun _ _ _ _ _ r h=>by simp [spec_l1Some.l0] at h
 | k+1=>by
  have ih0:=spec_l1Some.mono_l k
  intro y0 y1 y2 y3 y4
  unfold spec_l1Some.l0
  exact mm
theorem spec_l1Some.mono:∀ a0 a1 k,LeO (spec_l1Some.f k a0 a1) (spec_l1Some.f (k+1) a0 a1):=by
 intro a0 a1 k
 have ih0:=spec_l1Some.mono_l k
 unfold spec_l1Some.f
 exact mm
theorem spec_l1Some.calls (k:Nat) (A0:Option Addr) (c0:Nat) (l0:List Int) (a1:Int) (r:Bool) (w:World) (hr0:Kd.C (Kd.int .i64) w A0 l0.length l0) (hc0:l0.length≤c0) (h:spec_l1Some.f k l0 a1=some r) :
  Calls Try.prog 98 #[.slice A0 l0.length c0, .int .i64 a1] w fun e w'=>e = .returned (.bool r)∧Drawn0 w w':=by
 have HR0:=am hr0
 have HC0:=am hc0
 clear hr0 hc0
 have H:=h
 unfold spec_l1Some.f at H
 clear h
 have H':=am H
 clear H
 go_enter Try.func98,Try.ntmps98
 go_wp2
 go_loopg [9] k (fun kq v9 w'=>∃ (x9_1:Int),v9 = .int .i64 x9_1∧Aside0 (spec_l1Some.l0 kq l0 a1 l0 (l0.length:Int) x9_1=some r)∧Aside0 (kq≤k)∧Drawn0 w w')
 case atStart=>exact ⟨(0),d3,H',⟨Nat.le_refl _⟩,d10⟩
 case round =>
  clear H'
  try clear p2
  obtain ⟨x9_1,rfl,HA,HK1,⟨m1,rfl⟩⟩:=hrel
  cases gk with
  | zero=>exact absurd HA.out (by simp [spec_l1Some.l0])
  | succ k1 =>
   have H:=HA.out
   clear HA
   simp only [spec_l1Some.l0] at H
   by_cases c3:x9_1 < (l0.length:Int)
   ·rw [if_pos c3] at H
    have c3b0:=decide_eq_true c3
    clear c3
    obtain ⟨c4,H⟩:=yi H
    have c4b0:=decide_eq_true c4
    clear c4
    obtain ⟨c5,H⟩:=yi H
    have c5b0:=decide_eq_true c5
    clear c5
    obtain ⟨t297,A6,H⟩:=yo H
    by_cases c7:t297=true
    ·subst c7
     replace H:=yt H
     by_cases c8:x9_1 > 0
     ·rw [if_pos c8] at H
      have c8b0:decide (0 < x9_1)=true:=decide_eq_true c8
      clear c8
      generalize hji9:(wrap64 (x9_1 - 1))=ji9 at H
      (try rw [hji9] at A6)
      have hji9w:(IntKind.i64.wrap (x9_1 - 1))=ji9:=(i64_w _).trans hji9
      obtain ⟨c10,H⟩:=yi H
      have c10b0:=decide_eq_true c10
      clear c10
      obtain ⟨c11,H⟩:=yi H
      have c11b0:=decide_eq_true c11
      clear c11
      by_cases c12:(rd l0 (ji9)) ≥ (rd l0 x9_1)
      ·rw [if_pos c12] at H
       have c12b0:decide ((rd l0 x9_1)≤(rd l0 (ji9)))=true:=decide_eq_true c12
       clear c12
       obtain rfl:=Option.some.inj H
       have p296:0≤(x9_1:Int):=od d1
       have q296:x9_1 < (l0.length:Int):=od d1
       obtain ⟨ad296,e296,hx296_0⟩:=Kd.at_int HR0.out x9_1 p296 q296
       cases e296
       replace p296:=eq_true p296
       replace q296:=eq_true q296
       go_wp2_with (first|((with_reducible refine gC 84 ?_);refine gM (some 17) Try.func84 (args:=#[.int .i64 (rd l0 x9_1), .int .i64 0, .int .i64 (wrap64 (a1 - 1))]) (spec_l1In.calls (rd l0 x9_1) 0 (wrap64 (a1 - 1)) true _ A6.out) ?_;rintro e w' ⟨rfl,⟨nd,rfl⟩⟩;refine ⟨_,rfl,?_⟩;have p298:0≤((ji9):Int):=od d1;have q298:(ji9) < (l0.length:Int):=od d1;obtain ⟨ad298,e298,hx298_0⟩:=Kd.at_int HR0.out (ji9) p298 q298;obtain rfl:ad296=ad298:=(by injection e298);replace p298:=eq_true p298;replace q298:=eq_true q298))
       go_ret
       exact ⟨by first|rfl|(simp;done)|(simp only [← hji9] <;> (first|rfl|simp))|(simp [*];done),d10⟩
      rw [if_neg c12] at H
      have c12b0:decide ((rd l0 x9_1)≤(rd l0 (ji9)))=false:=decide_eq_false c12
      clear c12
      have H':=am H
      clear H
      have p296:0≤(x9_1:Int):=od d1
      have q296:x9_1 < (l0.length:Int):=od d1
      obtain ⟨ad296,e296,hx296_0⟩:=Kd.at_int HR0.out x9_1 p296 q296
      cases e296
      replace p296:=eq_true p296
      replace q296:=eq_true q296
      go_wp2_with (first|((with_reducible refine gC 84 ?_);refine gM (some 17) Try.func84 (args:=#[.int .i64 (rd l0 x9_1), .int .i64 0, .int .i64 (wrap64 (a1 - 1))]) (spec_l1In.calls (rd l0 x9_1) 0 (wrap64 (a1 - 1)) true _ A6.out) ?_;rintro e w' ⟨rfl,⟨nd,rfl⟩⟩;refine ⟨_,rfl,?_⟩;have p298:0≤((ji9):Int):=od d1;have q298:(ji9) < (l0.length:Int):=od d1;obtain ⟨ad298,e298,hx298_0⟩:=Kd.at_int HR0.out (ji9) p298 q298;obtain rfl:ad296=ad298:=(by injection e298);replace p298:=eq_true p298;replace q298:=eq_true q298))
      go_roundg k1
      case measure=>have:=HK1.out;omega
      case rel=>exact ⟨(wrap64 (x9_1+1)),d3,H',⟨d22⟩,d10⟩
     rw [if_neg c8] at H
     have c8b0:decide (0 < x9_1)=false:=decide_eq_false c8
     clear c8
     have H':=am H
     clear H
     have p296:0≤(x9_1:Int):=od d1
     have q296:x9_1 < (l0.length:Int):=od d1
     obtain ⟨ad296,e296,hx296_0⟩:=Kd.at_int HR0.out x9_1 p296 q296
     cases e296
     replace p296:=eq_true p296
     replace q296:=eq_true q296
     go_wp2_with (first|((with_reducible refine gC 84 ?_);refine gM (some 17) Try.func84 (args:=#[.int .i64 (rd l0 x9_1), .int .i64 0, .int .i64 (wrap64 (a1 - 1))]) (spec_l1In.calls (rd l0 x9_1) 0 (wrap64 (a1 - 1)) true _ A6.out) ?_;rintro e w' ⟨rfl,⟨nd,rfl⟩⟩;refine ⟨_,rfl,?_⟩))
     go_roundg k1
     case measure=>have:=HK1.out;omega
     case rel=>exact ⟨(wrap64 (x9_1+1)),d3,H',⟨d22⟩,d10⟩
    replace c7:=Bool.eq_false_iff.mpr c7
    subst c7
    replace H:=yn H
    obtain rfl:=Option.some.inj H
    have p296:0≤(x9_1:Int):=od d1
    have q296:x9_1 < (l0.length:Int):=od d1
    obtain ⟨ad296,e296,hx296_0⟩:=Kd.at_int HR0.out x9_1 p296 q296
    cases e296
    replace p296:=eq_true p296
    replace q296:=eq_true q296
    go_wp2_with (first|((with_reducible refine gC 84 ?_);refine gM (some 17) Try.func84 (args:=#[.int .i64 (rd l0 x9_1), .int .i64 0, .int .i64 (wrap64 (a1 - 1))]) (spec_l1In.calls (rd l0 x9_1) 0 (wrap64 (a1 - 1)) false _ A6.out) ?_;rintro e w' ⟨rfl,⟨nd,rfl⟩⟩;refine ⟨_,rfl,?_⟩))
    go_ret
    exact ⟨d3,d10⟩
   rw [if_neg c3] at H
   have c3b0:=decide_eq_false c3
   clear c3
   obtain rfl:=Option.some.inj H
   go_wp2
   go_ret
   exact ⟨d3,d10⟩

mutual
def spec_l2Part.l0:Nat→List Int→List Int→Int→Int→List (List Int)→List (List Int)→Option ((List (List Int)))
 | 0,_,_,_,_,_,_=>none
 | k+1,x2,x14,x15,x16,x300000,x302000=>if x16 < x15 then (if 0≤x16 then (if x16 < (x14.length:Int) then (spec_l2Part.l1 k x2 (rd x14 x16) ([]:List Int) x14 x15 x16 x2 (x2.length:Int) 0 x300000 x302000) else (none)) else (none)) else (some x302000)
def spec_l2Part.l1:Nat→List Int→Int→List Int→List Int→Int→Int→List Int→Int→Int→List (List Int)→List (List Int)→Option ((List (List Int)))
 | 0,_,_,_,_,_,_,_,_,_,_,_=>none
 | k+1,x2,x9,x10,x14,x15,x16,x20,x21,x22,x300000,x302000=>if x22 < x21 then (if 0≤x22 then (if x22 < (x20.length:Int) then (if 0≤x9 then (if x9 < (x300000.length:Int) then (if 0≤(rd x20 x22) then (if (rd x20 x22) < ((rd_L1 x300000 x9).length:Int) then (if x10.length < 140737488355328 then (spec_l2Part.l1 k x2 x9 (x10 ++ [rd (rd_L1 x300000 x9) (rd x20 x22)]) x14 x15 x16 x20 x21 (wrap64 (x22+1)) x300000 x302000) else (none)) else (none)) else (none)) else (none)) else (none)) else (none)) else (none)) else (if x302000.length < 5864062014805 then (spec_l2Part.l0 k x2 x14 x15 (wrap64 (x16+1)) x300000 (x302000 ++ [x10])) else (none))
end
def spec_l2Part.f (k:Nat) (l0_0:List (List Int)) (l1:List Int) (l2:List Int):Option ((List (List Int))):=spec_l2Part.l0 k l2 l1 (l1.length:Int) 0 l0_0 ([]:List (List Int))
theorem spec_l2Part.mono_l:∀ k,(∀ y0 y1 y2 y3 y4 y5,LeO (spec_l2Part.l0 k y0 y1 y2 y3 y4 y5) (spec_l2Part.l0 (k+1) y0 y1 y2 y3 y4 y5))∧(∀ y0 y1 y2 y3 y4 y5 y6 y7 y8 y9 y10,LeO (spec_l2Part.l1 k y0 y1 y2 y3 y4 y5 y6 y7 y8 y9 y10) (spec_l2Part.l1 (k+1) y0 y1 y2 y3 y4 y5 y6 y7 y8 y9 y10))
 | 0=>⟨fun _ _ _ _ _ _ r h=>by simp [spec_l2Part.l0] at h,fun _ _ _ _ _ _ _ _ _ _ _ r h=>by simp [spec_l2Part.l1] at h⟩
 | k+1=>by
  obtain ⟨ih0,ih1⟩:=spec_l2Part.mono_l k
  refine ⟨?_,?_⟩
  ·intro y0 y1 y2 y3 y4 y5
   unfold spec_l2Part.l0
   exact mm
  intro y0 y1 y2 y3 y4 y5 y6 y7 y8 y9 y10
  unfold spec_l2Part.l1
  exact mm
theorem spec_l2Part.mono:∀ a0 a1 a2 k,LeO (spec_l2Part.f k a0 a1 a2) (spec_l2Part.f (k+1) a0 a1 a2):=by
 intro a0 a1 a2 k
 obtain ⟨ih0,ih1⟩:=spec_l2Part.mono_l k
 unfold spec_l2Part.f
 exact mm
theorem spec_l2Part.calls (k:Nat) (A0_0:Option Addr) (c0_0:Nat) (l0_0:List (List Int)) (A1:Option Addr) (c1:Nat) (l1:List Int) (A2:Option Addr) (c2:Nat) (l2:List Int) (r:List (List Int)) (w:World) (hr0_0:Kd.C (Kd.slice 5 (Kd.int .u8)) w A0_0 l0_0.length l0_0) (hc0_0:l0_0.length≤c0_0) (hr1:Kd.C (Kd.int .i64) w A1 l1.length l1) (hc1:l1.length≤c1) (hr2:Kd.C (Kd.int .i64) w A2 l2.length l2) (hc2:l2.length≤c2) (h:spec_l2Part.f k l0_0 l1 l2=some r) :
  Calls Try.prog 99 #[.agg #[.slice A0_0 l0_0.length c0_0], .slice A1 l1.length c1, .slice A2 l2.length c2] w fun e w'=>∃ v0_:Value,e = .returned (.agg #[v0_])∧Kd.S (Kd.slice 5 (Kd.int .u8)) 24 w' w.heap.size (fun _=>True) v0_ r∧Below w.heap.size w w':=by
 have hu27:=Try.underlying27
 have HR0_0:=am hr0_0
 have HC0_0:=am hc0_0
 clear hr0_0 hc0_0
 have HR1:=am hr1
 have HC1:=am hc1
 clear hr1 hc1
 have HR2:=am hr2
 have HC2:=am hc2
 clear hr2 hc2
 have HB:=am (Below.refl w.heap.size w)
 have H:=h
 unfold spec_l2Part.f at H
 clear h
 have H':=am H
 clear H
 go_enter Try.func99,Try.ntmps99
 go_wp2_with (first|((with_reducible refine gD 3 ?_);refine gB (cs:=#[.slice A0_0 l0_0.length c0_0]) 27 ?_;intro gb299 hg w4 hbox hb;have BK299:=am (hbox);have GW299:=ye HB hg;replace HB:=yH HB hb;have GE299:=GW299;clear hb hbox hg)|((with_reducible refine gD 6 ?_);refine gB (cs:=#[.slice none 0 0]) 27 ?_;intro gb300 hg w5 hbox hb;have BK300:=am (hbox);have GW300:=ye HB hg;replace HB:=yH HB hb;have NB299_300:=yl BK299 hg;have NB300_299:=yg BK299 hg;replace BK299:=yb BK299 hb;have GE300:=GW300;clear hb hbox hg)|((with_reducible refine gD 7 ?_);refine gB (cs:=#[.slice none 0 0]) 27 ?_;intro gb301 hg w6 hbox hb;have BK301:=am (hbox);have GW301:=ye HB hg;replace HB:=yH HB hb;have NB299_301:=yl BK299 hg;have NB301_299:=yg BK299 hg;replace BK299:=yb BK299 hb;have NB300_301:=yl BK300 hg;have NB301_300:=yg BK300 hg;replace BK300:=yb BK300 hb;have GE301:=GW301;clear hb hbox hg;have hnb7:=NB301_299.out;have hnc7:=NB299_301.out;have hnb8:=NB301_300.out;have hnc8:=NB300_301.out;obtain ⟨hcz9_0,hfz9_0⟩:=yk1 BK301))
 go_loopg [16] k (fun kq v16 w'=>∃ (x16_1:Int) (x302000_1:List (List Int)) (u302000:Value),v16 = .int .i64 x16_1∧Aside0 (spec_l2Part.l0 kq l2 l1 (l1.length:Int) x16_1 l0_0 x302000_1=some r)∧Aside0 (kq≤k)∧Aside0 (Kd.S (Kd.slice 5 (Kd.int .u8)) 24 w' w.heap.size (fun _=>True) u302000 x302000_1)∧Aside0 (w'.heap[gb299]? = some (.cells #[(.slice A0_0 l0_0.length c0_0)] 27 (0,0)))∧Aside0 (w'.heap[gb300]? = some (.cells #[(.slice none 0 0)] 27 (0,0)))∧Aside0 (w'.heap[gb301]? = some (.cells #[u302000] 27 (0,0)))∧Aside0 (Below w.heap.size w w'))
 case atStart=>exact ⟨(0),(([]:List (List Int))),(.slice none 0 0),d3,H',⟨Nat.le_refl _⟩,⟨d11⟩,⟨yF BK299⟩,⟨yF BK300⟩,⟨by refine sB ?_;refine blk_put (cs:=#[.slice none 0 0]) ?_ 0 _ rfl;exact yB BK301⟩,⟨yW HB⟩⟩
 case round =>
  clear H'
  try clear c1
  try clear c2
  try clear p2
  try clear c7
  try clear c8
  try clear c9
  try clear hcz9_0
  try clear hfz9_0
  obtain ⟨x16_1,x302000_1,u302000,rfl,HA,HK1,HO_302000,BK299,BK300,BK301,HB⟩:=hrel
  cases gk with
  | zero=>exact absurd HA.out (by simp [spec_l2Part.l0])
  | succ k1 =>
   have H:=HA.out
   clear HA
   simp only [spec_l2Part.l0] at H
   by_cases c10:x16_1 < (l1.length:Int)
   ·rw [if_pos c10] at H
    have c10b0:=decide_eq_true c10
    clear c10
    obtain ⟨c11,H⟩:=yi H
    have c11b0:=decide_eq_true c11
    clear c11
    obtain ⟨c12,H⟩:=yi H
    have c12b0:=decide_eq_true c12
    clear c12
    have H':=am H
    clear H
    have p302:0≤(x16_1:Int):=od d1
    have q302:x16_1 < (l1.length:Int):=od d1
    obtain ⟨ad302,e302,hx302_0⟩:=Kd.at_int HR1.out x16_1 p302 q302
    cases e302
    replace hx302_0:=(HB.out.cell (World.block_lt_of_cell? w _ hx302_0)).trans hx302_0
    replace p302:=eq_true p302
    replace q302:=eq_true q302
    go_wp2
    go_loopg [10,22] k1 (fun kq v10 v22 w'=>∃ (x10_2:List Int) (x22_2:Int),v22 = .int .i64 x22_2∧Aside0 (spec_l2Part.l1 kq l2 (rd l1 x16_1) x10_2 l1 (l1.length:Int) x16_1 l2 (l2.length:Int) x22_2 l0_0 x302000_1=some r)∧Aside0 (kq≤k1)∧Aside0 (Kd.R (Kd.int .u8) 5 w' w.heap.size (fun _=>True) v10 x10_2)∧Aside0 (Kd.S (Kd.slice 5 (Kd.int .u8)) 24 w' w.heap.size (fun k_=>some k_ ≠ (v10:Value).ownBlock) u302000 x302000_1)∧Aside0 (w'.heap[gb299]? = some (.cells #[(.slice A0_0 l0_0.length c0_0)] 27 (0,0)))∧Aside0 (w'.heap[gb300]? = some (.cells #[(.slice none 0 0)] 27 (0,0)))∧Aside0 (w'.heap[gb301]? = some (.cells #[u302000] 27 (0,0)))∧Aside0 (Below w.heap.size w w'))
    case atStart=>exact ⟨(([]:List Int)),(0),d3,H',⟨Nat.le_refl _⟩,⟨d29⟩,⟨by refine sS ?_;exact Kd.S_mono HO_302000.out (fun _ hk=>(by simp [Value.ownBlock]))⟩,⟨yB BK299⟩,⟨yB BK300⟩,⟨yB BK301⟩,⟨yW HB⟩⟩
    case round =>
     clear H'
     try clear c1
     try clear c2
     try clear p2
     try clear p3
     try clear q3
     try clear hx3
     try clear c7
     try clear c8
     try clear c9
     try clear c10
     try clear c10b0
     try clear c11
     try clear c11b0
     try clear c12
     try clear c12b0
     try clear hcz9_0
     try clear hfz9_0
     try clear hx302_0
     try clear p2
     try clear p302
     try clear q302
     obtain ⟨x10_2,x22_2,rfl,HA,HK2,HO_10,HO_302000,BK299,BK300,BK301,HB⟩:=hrel
     cases gk with
     | zero=>exact absurd HA.out (by simp [spec_l2Part.l1])
     | succ k2 =>
      have H:=HA.out
      clear HA
      simp only [spec_l2Part.l1] at H
      by_cases c13:x22_2 < (l2.length:Int)
      ·rw [if_pos c13] at H
       have c13b0:=decide_eq_true c13
       clear c13
       obtain ⟨c14,H⟩:=yi H
       have c14b0:=decide_eq_true c14
       clear c14
       obtain ⟨c15,H⟩:=yi H
       have c15b0:=decide_eq_true c15
       clear c15
       obtain ⟨c16,H⟩:=yi H
       have c16b0:=decide_eq_true c16
       clear c16
       obtain ⟨c17,H⟩:=yi H
       have c17b0:=decide_eq_true c17
       clear c17
       obtain ⟨c18,H⟩:=yi H
       have c18b0:=decide_eq_true c18
       clear c18
       obtain ⟨c19,H⟩:=yi H
       have c19b0:=decide_eq_true c19
       clear c19
       obtain ⟨c20,H⟩:=yi H
       have LMc20:=am c20
       clear c20
       generalize hy306:(x10_2 ++ [rd (rd_L1 l0_0 (rd l1 x16_1)) (rd l2 x22_2)]:List Int)=y306 at H
       have Ny306:=am hy306.symm
       clear hy306
       have H':=am H
       clear H
       have p303:0≤(x22_2:Int):=od d1
       have q303:x22_2 < (l2.length:Int):=od d1
       obtain ⟨ad303,e303,hx303_0⟩:=Kd.at_int HR2.out x22_2 p303 q303
       cases e303
       replace hx303_0:=(HB.out.cell (World.block_lt_of_cell? w _ hx303_0)).trans hx303_0
       replace p303:=eq_true p303
       replace q303:=eq_true q303
       have hnb21:=NB299_300.out
       have hnc21:=NB300_299.out
       have hnb22:=NB299_301.out
       have hnc22:=NB301_299.out
       obtain ⟨hcz23_0,hfz23_0⟩:=yk1 BK299
       have p304:0≤((rd l1 x16_1):Int):=od d1
       have q304:(rd l1 x16_1) < (l0_0.length:Int):=od d1
       obtain ⟨ad304,A304_0,c304_0,e304,hx304_0,hl304_0,hi304_0⟩:=at_L1 HR0_0.out (rd l1 x16_1) p304 q304
       cases e304
       replace hx304_0:=(HB.out.cell (World.block_lt_of_cell? w _ hx304_0)).trans hx304_0
       have HR304_0:=am hi304_0
       have HC304_0:=am hl304_0
       clear hi304_0 hl304_0
       replace p304:=eq_true p304
       replace q304:=eq_true q304
       have p305:0≤((rd l2 x22_2):Int):=od d1
       have q305:(rd l2 x22_2) < ((rd_L1 l0_0 (rd l1 x16_1)).length:Int):=od d1
       obtain ⟨ad305,e305,hx305_0⟩:=Kd.at_int HR304_0.out (rd l2 x22_2) p305 q305
       cases e305
       replace hx305_0:=(HB.out.cell (World.block_lt_of_cell? w _ hx305_0)).trans hx305_0
       replace p305:=eq_true p305
       replace q305:=eq_true q305
       go_wp2_with (first|((with_reducible refine gate_builtin (b:=.append) (xs:=#[.tmp 26, .tmp 35]) rfl ?_);at_builtin;refine Kd.R_append (Kd.int .u8) (w0:=w) w.heap.size rfl (.tmp 26) (.tmp 35) 24 5 (.int .u8 0) 1 rfl Try.underlying24 info5 rfl d9 d13 u10 x10_2 (rd (rd_L1 l0_0 (rd l1 x16_1)) (rd l2 x22_2)) [.int .u8 (rd (rd_L1 l0_0 (rd l1 x16_1)) (rd l2 x22_2))] (fun _=>True) (fun _=>False) rfl rfl d104 (fun _ hk=>hk.elim) d25 (by exact (yR HO_10)) d55 d40 (by have:=LMc20.out;omega) ?_;intro v307 w24 ho hb hg hat;rw [← Ny306.out] at ho;have n0_:=am (Kd.S_after (ok:=(fun _=>True)) (by refine sS ?_;exact Kd.S_mono HO_302000.out (fun _ hk=>⟨trivial,hk⟩)) hg hat);have n1_:=am (blk_grown (g:=gb299) (o:=.cells #[.slice (some ad304) l0_0.length c0_0] 27 (0,0)) (yB BK299) hg (Kd.R_ne HO_10.out BK299.out d9));have n2_:=am (blk_grown (g:=gb300) (o:=.cells #[.slice none 0 0] 27 (0,0)) (yB BK300) hg (Kd.R_ne HO_10.out BK300.out d9));have n3_:=am (blk_grown (g:=gb301) (o:=.cells #[u302000] 27 (0,0)) (yB BK301) hg (Kd.R_ne HO_10.out BK301.out d9));have n4_:=am (hb);have n5_:=am (ho);clear HO_302000 BK299 BK300 BK301 HB HO_10;have HO_302000:=n0_;have BK299:=n1_;have BK300:=n2_;have BK301:=n3_;have HB:=n4_;have HO308:=n5_;clear n0_ n1_ n2_ n3_ n4_ n5_ ho hb hg hat))
       go_roundg k2
       case measure=>have:=HK1.out;have:=HK2.out;omega
       case rel=>exact ⟨(y306),(wrap64 (x22_2+1)),d3,H',⟨d52⟩,⟨yR HO308⟩,⟨by refine sS ?_;exact Kd.S_mono HO_302000.out (fun _ hk=>hk.2)⟩,⟨yB BK299⟩,⟨yB BK300⟩,⟨yB BK301⟩,⟨yW HB⟩⟩
      rw [if_neg c13] at H
      have c13b0:=decide_eq_false c13
      clear c13
      obtain ⟨c25,H⟩:=yi H
      have LMc25:=am c25
      clear c25
      generalize hy309:(x302000_1 ++ [x10_2]:List (List Int))=y309 at H
      have Ny309:=am hy309.symm
      clear hy309
      have H':=am H
      clear H
      have hnb26:=NB301_299.out
      have hnc26:=NB299_301.out
      have hnb27:=NB301_300.out
      have hnc27:=NB300_301.out
      obtain ⟨hcz28_0,hfz28_0⟩:=yk1 BK301
      obtain ⟨Ao30,co30,eo30⟩:=Kd.R_slice HO_10.out
      subst eo30
      go_wp2_with (first|((with_reducible refine gate_builtin (b:=.append) (xs:=#[.tmp 39, .tmp 41]) rfl ?_);at_builtin;refine Kd.S_append (Kd.slice 5 (Kd.int .u8)) (w0:=w) w.heap.size rfl (.tmp 39) (.tmp 41) 25 24 (.slice none 0 0) 24 rfl Try.underlying25 info24 rfl d9 d13 u302000 x302000_1 x10_2 [.slice Ao30 x10_2.length co30] (fun _=>True) (fun k_=>some k_=(.slice Ao30 x10_2.length co30:Value).ownBlock) rfl rfl (by exact Kd.M_row (Kd.R_mono (Kd.R_tight rfl (Kd.R_mono (ok':=fun k_=>((fun _=>True)) k_∧some k_ ≠ (u302000:Value).ownBlock) (Kd.R_apart' (HO_10.out) (Kd.S_typed HO_302000.out) d9) (fun k_ hk=>⟨trivial,hk.2⟩))) (fun _ h_=>h_))) (fun k_ hk_=>((Kd.R_mono (ok':=fun k_=>((fun _=>True)) k_∧some k_ ≠ (u302000:Value).ownBlock) (Kd.R_apart' (HO_10.out) (Kd.S_typed HO_302000.out) d9) (fun k_ hk=>⟨trivial,hk.2⟩))).1 k_ hk_.symm) d25 (by exact (by refine sS ?_;exact Kd.S_mono HO_302000.out (fun k_ hk=>⟨trivial,fun e_=>hk e_⟩))) d55 d40 (by have:=LMc25.out;omega) ?_;intro v310 w29 ho hb hg hat;rw [← Ny309.out] at ho;have n0_:=am (blk_grown (g:=gb299) (o:=.cells #[.slice A0_0 l0_0.length c0_0] 27 (0,0)) (yB BK299) hg (Kd.S_ne HO_302000.out BK299.out d9));have n1_:=am (blk_grown (g:=gb300) (o:=.cells #[.slice none 0 0] 27 (0,0)) (yB BK300) hg (Kd.S_ne HO_302000.out BK300.out d9));have n2_:=am (blk_grown (g:=gb301) (o:=.cells #[u302000] 27 (0,0)) (yB BK301) hg (Kd.S_ne HO_302000.out BK301.out d9));have n3_:=am (hb);have n4_:=am (ho);clear BK299 BK300 BK301 HB HO_302000 HO_10;have BK299:=n0_;have BK300:=n1_;have BK301:=n2_;have HB:=n3_;have HO311:=n4_;clear n0_ n1_ n2_ n3_ n4_ ho hb hg hat;obtain ⟨Ao31,co31,eo31⟩:=Kd.S_slice HO311.out;subst eo31;obtain ⟨hcz32_0,hfz32_0⟩:=yk1 BK301))
      go_roundg k2
      case measure=>have:=HK1.out;have:=HK2.out;omega
      case rel=>exact ⟨(wrap64 (x16_1+1)),(y309),(.slice Ao31 y309.length co31),d3,H',⟨d52⟩,⟨by refine sS ?_;exact Kd.S_mono (Kd.S_far (p:=⟨gb301,0,none⟩) (Kd.S_types HO311.out BK301.out d9) (fun _ hk=>hk.2) (.slice Ao31 y309.length co31)) (fun _ hk=>trivial)⟩,⟨yF BK299⟩,⟨yF BK300⟩,⟨by refine sB ?_;refine blk_put (cs:=#[u302000]) ?_ 0 _ rfl;exact yB BK301⟩,⟨yW HB⟩⟩
   rw [if_neg c10] at H
   have c10b0:=decide_eq_false c10
   clear c10
   obtain rfl:=Option.some.inj H
   have hnb33:=NB301_299.out
   have hnc33:=NB299_301.out
   have hnb34:=NB301_300.out
   have hnc34:=NB300_301.out
   obtain ⟨hcz35_0,hfz35_0⟩:=yk1 BK301
   obtain ⟨Ao36,co36,eo36⟩:=Kd.S_slice HO_302000.out
   subst eo36
   have hnb37:=NB300_299.out
   have hnc37:=NB299_300.out
   obtain ⟨hcz38_0,hfz38_0⟩:=yk1 BK300
   go_wp2
   refine bodyPost_ret (results_cell_row rfl _ _ gb300 27 #[.slice Ao36 x302000_1.length co36] (0,0) _ rfl (by refine sB ?_;refine blk_put (cs:=#[.slice none 0 0]) ?_ 0 _ rfl;exact yB BK300) Try.underlying27 rfl d12) rfl ?_
   exact ⟨_,d2,by refine sS ?_;exact Kd.S_mono (Kd.S_far (p:=⟨gb300,0,none⟩) (Kd.S_types HO_302000.out BK300.out d9) (fun _ hk=>hk.2) (.slice Ao36 x302000_1.length co36)) (fun _ hk=>trivial),yW HB⟩
def spec_PartOf.f (k:Nat) (l0_0:List (List Int)) (l1:List Int) (l2:List Int):Option ((List (List Int)) × Bool):=(spec_GoodMatrix.f k l0_0).bind fun t314=>(if t314=true then ((spec_l1Some.f k l1 (l0_0.length:Int)).bind fun t315=>(if t315=true then (if 0 < (l0_0.length:Int) then ((spec_l1Some.f k l2 ((rd_L1 l0_0 0).length:Int)).bind fun t317=>(if t317=true then (if (l1.length:Int)=0 then (some (([]:List (List Int)),false)) else (if (l2.length:Int)=0 then (some (([]:List (List Int)),false)) else ((spec_l2Part.f k l0_0 l1 l2).bind fun t318=>(some (t318,true))))) else (some (([]:List (List Int)),false)))) else (none)) else (some (([]:List (List Int)),false)))) else (some (([]:List (List Int)),false)))
theorem spec_PartOf.mono:∀ a0 a1 a2 k,LeO (spec_PartOf.f k a0 a1 a2) (spec_PartOf.f (k+1) a0 a1 a2):=by
 intro a0 a1 a2 k
 unfold spec_PartOf.f
 exact mm
theorem spec_PartOf.calls (k:Nat) (A0_0:Option Addr) (c0_0:Nat) (l0_0:List (List Int)) (A1:Option Addr) (c1:Nat) (l1:List Int) (A2:Option Addr) (c2:Nat) (l2:List Int) (r1:List (List Int)) (r2:Bool) (w:World) (hr0_0:Kd.C (Kd.slice 5 (Kd.int .u8)) w A0_0 l0_0.length l0_0) (hc0_0:l0_0.length≤c0_0) (hr1:Kd.C (Kd.int .i64) w A1 l1.length l1) (hc1:l1.length≤c1) (hr2:Kd.C (Kd.int .i64) w A2 l2.length l2) (hc2:l2.length≤c2) (h:spec_PartOf.f k l0_0 l1 l2=some (r1,r2)) :
  Calls Try.prog 42 #[.agg #[.slice A0_0 l0_0.length c0_0], .slice A1 l1.length c1, .slice A2 l2.length c2] w fun e w'=>∃ v0_:Value,e = .returned (.tuple #[.agg #[v0_], .bool r2])∧Kd.S (Kd.slice 5 (Kd.int .u8)) 24 w' w.heap.size (fun _=>True) v0_ r1∧Below w.heap.size w w':=by
 have hu27:=Try.underlying27
 have HR0_0:=am hr0_0
 have HC0_0:=am hc0_0
 clear hr0_0 hc0_0
 have HR1:=am hr1
 have HC1:=am hc1
 clear hr1 hc1
 have HR2:=am hr2
 have HC2:=am hc2
 clear hr2 hc2
 have HB:=am (Below.refl w.heap.size w)
 have H:=h
 unfold spec_PartOf.f at H
 clear h
 obtain ⟨t314,A4,H⟩:=yo H
 by_cases c5:t314=true
 ·subst c5
  replace H:=yt H
  obtain ⟨t315,A6,H⟩:=yo H
  by_cases c7:t315=true
  ·subst c7
   replace H:=yt H
   obtain ⟨c8,H⟩:=yi H
   have c8b0:=decide_eq_true c8
   have c8b1:decide (0 < l0_0.length)=true:=decide_eq_true d13
   clear c8
   obtain ⟨t317,A9,H⟩:=yo H
   by_cases c10:t317=true
   ·subst c10
    replace H:=yt H
    by_cases c11:(l1.length:Int)=0
    ·rw [if_pos c11] at H
     have c11b0:((l1.length:Int) == 0)=true:=beq_iff_eq.mpr c11
     have c11b1:((l1.length:Int) != 0)=false:=bne_eq_false_iff_eq.mpr c11
     clear c11
     simp only [Option.some.injEq,Prod.mk.injEq] at H
     obtain ⟨rfl,rfl⟩:=H
     go_enter Try.func42,Try.ntmps42
     go_wp2_with (first|((with_reducible refine gD 3 ?_);(try (refine gate_guard d20 ?_;dsimp only));refine gB (cs:=#[.slice A0_0 l0_0.length c0_0]) 27 ?_;intro gb312 hg w12 hbox hb;have BK312:=am (hbox);have GW312:=ye HB hg;replace HB:=yH HB hb;have GE312:=GW312;clear hb hbox hg)|((with_reducible refine gD 6 ?_);(try (refine gate_guard d20 ?_;dsimp only));refine gB (cs:=#[.slice none 0 0]) 27 ?_;intro gb313 hg w13 hbox hb;have BK313:=am (hbox);have GW313:=ye HB hg;replace HB:=yH HB hb;have NB312_313:=yl BK312 hg;have NB313_312:=yg BK312 hg;replace BK312:=yb BK312 hb;have GE313:=GW313;clear hb hbox hg;have hnb14:=NB312_313.out;have hnc14:=NB313_312.out;obtain ⟨hcz15_0,hfz15_0⟩:=yk1 BK312)|((with_reducible refine gC 97 ?_);refine gM (some 9) Try.func97 (args:=#[.agg #[.slice A0_0 l0_0.length c0_0]]) (spec_GoodMatrix.calls k _ _ l0_0 true _ (yc (Kd.C_below HR0_0.out HB.out)) HC0_0.out A4.out) ?_;rintro e w16 ⟨rfl,hb⟩;refine ⟨_,rfl,?_⟩;replace BK312:=yb BK312 hb;replace BK313:=yb BK313 hb;replace HB:=yH HB hb;clear hb;obtain ⟨hcz17_0,hfz17_0⟩:=yk1 BK312;have hm_BK312:_=some _:=(blk_cell BK312.out 0).trans rfl;have hn_BK312:=blk_frozen BK312.out 0;have hm_BK313:_=some _:=(blk_cell BK313.out 0).trans rfl;have hn_BK313:=blk_frozen BK313.out 0)|(go_at_call 98;(with_reducible refine (spec_l1Some.calls k _ _ l1 (l0_0.length:Int) true _ (yc (Kd.C_below HR1.out HB.out)) HC1.out A6.out).mono ?_);rintro e w' ⟨rfl,⟨nd,rfl⟩⟩;(try (rw [drewN_self w16];generalize hq_:World.drewN w16 _=w16;have n0_:Aside0 (w16.heap[gb312]? = some (.cells #[.slice A0_0 l0_0.length c0_0] 27 (0,0))):=⟨d51⟩;have n1_:Aside0 (w16.heap[gb313]? = some (.cells #[.slice none 0 0] 27 (0,0))):=⟨d50⟩;have n2_:Aside0 (Below w.heap.size w w16):=⟨d19⟩;clear BK312 BK313 HB hq_;have BK312:=n0_;have BK313:=n1_;have HB:=n2_;clear n0_ n1_ n2_));have p316:0≤(0:Int):=d13;have q316:0 < (l0_0.length:Int):=od d1;obtain ⟨ad316,A316_0,c316_0,e316,hx316_0,hl316_0,hi316_0⟩:=at_L1 HR0_0.out 0 p316 q316;cases e316;have qi316:(0 < l0_0.length)=True:=eq_true d13;(try rw [show ((0:Int)).toNat=0 from rfl] at hx316_0);(try rw [Addr.add_zero'] at hx316_0);replace hx316_0:=(HB.out.cell (World.block_lt_of_cell? w _ hx316_0)).trans hx316_0;have HR316_0:=am hi316_0;have HC316_0:=am hl316_0;clear hi316_0 hl316_0;replace p316:=eq_true p316;replace q316:=eq_true q316;have hm_BK312:_=some _:=(blk_cell BK312.out 0).trans rfl;have hn_BK312:=blk_frozen BK312.out 0;have hm_BK313:_=some _:=(blk_cell BK313.out 0).trans rfl;have hn_BK313:=blk_frozen BK313.out 0)|(go_at_call 98;(with_reducible refine (spec_l1Some.calls k _ _ l2 ((rd_L1 l0_0 0).length:Int) true _ (yc (Kd.C_below HR2.out HB.out)) HC2.out A9.out).mono ?_);rintro e w' ⟨rfl,⟨nd,rfl⟩⟩;(try (rw [drewN_self w16];generalize hq_:World.drewN w16 _=w16;have n0_:Aside0 (w16.heap[gb312]? = some (.cells #[.slice (some ad316) l0_0.length c0_0] 27 (0,0))):=⟨d51⟩;have n1_:Aside0 (w16.heap[gb313]? = some (.cells #[.slice none 0 0] 27 (0,0))):=⟨d50⟩;have n2_:Aside0 (Below w.heap.size w w16):=⟨d19⟩;clear BK312 BK313 HB hq_;have BK312:=n0_;have BK313:=n1_;have HB:=n2_;clear n0_ n1_ n2_));obtain ⟨hcz18_0,hfz18_0⟩:=yk1 BK313;have hm_BK312:_=some _:=(blk_cell BK312.out 0).trans rfl;have hn_BK312:=blk_frozen BK312.out 0;have hm_BK313:_=some _:=(blk_cell BK313.out 0).trans rfl;have hn_BK313:=blk_frozen BK313.out 0))
     refine bodyPost_ret (results_ct rfl _ _ gb313 27 #[.slice none 0 0] (0,0) _ rfl d27 Try.underlying27 rfl d12) rfl ?_
     exact ⟨_,d2,d11,yW HB⟩
    rw [if_neg c11] at H
    have c11b0:((l1.length:Int) == 0)=false:=beq_eq_false_iff_ne.mpr c11
    have c11b1:((l1.length:Int) != 0)=true:=bne_iff_ne.mpr c11
    have c11b2:¬ (l1=[]):=fun h_=>c11 (by rw [h_];rfl)
    by_cases c19:(l2.length:Int)=0
    ·rw [if_pos c19] at H
     have c19b0:((l2.length:Int) == 0)=true:=beq_iff_eq.mpr c19
     have c19b1:((l2.length:Int) != 0)=false:=bne_eq_false_iff_eq.mpr c19
     clear c19
     simp only [Option.some.injEq,Prod.mk.injEq] at H
     obtain ⟨rfl,rfl⟩:=H
     go_enter Try.func42,Try.ntmps42
     go_wp2_with (first|((with_reducible refine gD 3 ?_);(try (refine gate_guard d20 ?_;dsimp only));refine gB (cs:=#[.slice A0_0 l0_0.length c0_0]) 27 ?_;intro gb312 hg w20 hbox hb;have BK312:=am (hbox);have GW312:=ye HB hg;replace HB:=yH HB hb;have GE312:=GW312;clear hb hbox hg)|((with_reducible refine gD 6 ?_);(try (refine gate_guard d20 ?_;dsimp only));refine gB (cs:=#[.slice none 0 0]) 27 ?_;intro gb313 hg w21 hbox hb;have BK313:=am (hbox);have GW313:=ye HB hg;replace HB:=yH HB hb;have NB312_313:=yl BK312 hg;have NB313_312:=yg BK312 hg;replace BK312:=yb BK312 hb;have GE313:=GW313;clear hb hbox hg;have hnb22:=NB312_313.out;have hnc22:=NB313_312.out;obtain ⟨hcz23_0,hfz23_0⟩:=yk1 BK312)|((with_reducible refine gC 97 ?_);refine gM (some 9) Try.func97 (args:=#[.agg #[.slice A0_0 l0_0.length c0_0]]) (spec_GoodMatrix.calls k _ _ l0_0 true _ (yc (Kd.C_below HR0_0.out HB.out)) HC0_0.out A4.out) ?_;rintro e w24 ⟨rfl,hb⟩;refine ⟨_,rfl,?_⟩;replace BK312:=yb BK312 hb;replace BK313:=yb BK313 hb;replace HB:=yH HB hb;clear hb;obtain ⟨hcz25_0,hfz25_0⟩:=yk1 BK312;have hm_BK312:_=some _:=(blk_cell BK312.out 0).trans rfl;have hn_BK312:=blk_frozen BK312.out 0;have hm_BK313:_=some _:=(blk_cell BK313.out 0).trans rfl;have hn_BK313:=blk_frozen BK313.out 0)|(go_at_call 98;(with_reducible refine (spec_l1Some.calls k _ _ l1 (l0_0.length:Int) true _ (yc (Kd.C_below HR1.out HB.out)) HC1.out A6.out).mono ?_);rintro e w' ⟨rfl,⟨nd,rfl⟩⟩;(try (rw [drewN_self w24];generalize hq_:World.drewN w24 _=w24;have n0_:Aside0 (w24.heap[gb312]? = some (.cells #[.slice A0_0 l0_0.length c0_0] 27 (0,0))):=⟨d51⟩;have n1_:Aside0 (w24.heap[gb313]? = some (.cells #[.slice none 0 0] 27 (0,0))):=⟨d50⟩;have n2_:Aside0 (Below w.heap.size w w24):=⟨d19⟩;clear BK312 BK313 HB hq_;have BK312:=n0_;have BK313:=n1_;have HB:=n2_;clear n0_ n1_ n2_));have p316:0≤(0:Int):=d13;have q316:0 < (l0_0.length:Int):=od d1;obtain ⟨ad316,A316_0,c316_0,e316,hx316_0,hl316_0,hi316_0⟩:=at_L1 HR0_0.out 0 p316 q316;cases e316;have qi316:(0 < l0_0.length)=True:=eq_true d13;(try rw [show ((0:Int)).toNat=0 from rfl] at hx316_0);(try rw [Addr.add_zero'] at hx316_0);replace hx316_0:=(HB.out.cell (World.block_lt_of_cell? w _ hx316_0)).trans hx316_0;have HR316_0:=am hi316_0;have HC316_0:=am hl316_0;clear hi316_0 hl316_0;replace p316:=eq_true p316;replace q316:=eq_true q316;have hm_BK312:_=some _:=(blk_cell BK312.out 0).trans rfl;have hn_BK312:=blk_frozen BK312.out 0;have hm_BK313:_=some _:=(blk_cell BK313.out 0).trans rfl;have hn_BK313:=blk_frozen BK313.out 0)|(go_at_call 98;(with_reducible refine (spec_l1Some.calls k _ _ l2 ((rd_L1 l0_0 0).length:Int) true _ (yc (Kd.C_below HR2.out HB.out)) HC2.out A9.out).mono ?_);rintro e w' ⟨rfl,⟨nd,rfl⟩⟩;(try (rw [drewN_self w24];generalize hq_:World.drewN w24 _=w24;have n0_:Aside0 (w24.heap[gb312]? = some (.cells #[.slice (some ad316) l0_0.length c0_0] 27 (0,0))):=⟨d51⟩;have n1_:Aside0 (w24.heap[gb313]? = some (.cells #[.slice none 0 0] 27 (0,0))):=⟨d50⟩;have n2_:Aside0 (Below w.heap.size w w24):=⟨d19⟩;clear BK312 BK313 HB hq_;have BK312:=n0_;have BK313:=n1_;have HB:=n2_;clear n0_ n1_ n2_));obtain ⟨hcz26_0,hfz26_0⟩:=yk1 BK313;have hm_BK312:_=some _:=(blk_cell BK312.out 0).trans rfl;have hn_BK312:=blk_frozen BK312.out 0;have hm_BK313:_=some _:=(blk_cell BK313.out 0).trans rfl;have hn_BK313:=blk_frozen BK313.out 0))
     refine bodyPost_ret (results_ct rfl _ _ gb313 27 #[.slice none 0 0] (0,0) _ rfl d27 Try.underlying27 rfl d12) rfl ?_
     exact ⟨_,d2,d11,yW HB⟩
    rw [if_neg c19] at H
    have c19b0:((l2.length:Int) == 0)=false:=beq_eq_false_iff_ne.mpr c19
    have c19b1:((l2.length:Int) != 0)=true:=bne_iff_ne.mpr c19
    have c19b2:¬ (l2=[]):=fun h_=>c19 (by rw [h_];rfl)
    obtain ⟨t318,A27,H⟩:=yo H
    simp only [Option.some.injEq,Prod.mk.injEq] at H
    obtain ⟨rfl,rfl⟩:=H
    go_enter Try.func42,Try.ntmps42
    go_wp2_with (first|((with_reducible refine gD 3 ?_);(try (refine gate_guard d20 ?_;dsimp only));refine gB (cs:=#[.slice A0_0 l0_0.length c0_0]) 27 ?_;intro gb312 hg w28 hbox hb;have BK312:=am (hbox);have GW312:=ye HB hg;replace HB:=yH HB hb;have GE312:=GW312;clear hb hbox hg)|((with_reducible refine gD 6 ?_);(try (refine gate_guard d20 ?_;dsimp only));refine gB (cs:=#[.slice none 0 0]) 27 ?_;intro gb313 hg w29 hbox hb;have BK313:=am (hbox);have GW313:=ye HB hg;replace HB:=yH HB hb;have NB312_313:=yl BK312 hg;have NB313_312:=yg BK312 hg;replace BK312:=yb BK312 hb;have GE313:=GW313;clear hb hbox hg;have hnb30:=NB312_313.out;have hnc30:=NB313_312.out;obtain ⟨hcz31_0,hfz31_0⟩:=yk1 BK312)|((with_reducible refine gC 97 ?_);refine gM (some 9) Try.func97 (args:=#[.agg #[.slice A0_0 l0_0.length c0_0]]) (spec_GoodMatrix.calls k _ _ l0_0 true _ (yc (Kd.C_below HR0_0.out HB.out)) HC0_0.out A4.out) ?_;rintro e w32 ⟨rfl,hb⟩;refine ⟨_,rfl,?_⟩;replace BK312:=yb BK312 hb;replace BK313:=yb BK313 hb;replace HB:=yH HB hb;clear hb;obtain ⟨hcz33_0,hfz33_0⟩:=yk1 BK312;have hm_BK312:_=some _:=(blk_cell BK312.out 0).trans rfl;have hn_BK312:=blk_frozen BK312.out 0;have hm_BK313:_=some _:=(blk_cell BK313.out 0).trans rfl;have hn_BK313:=blk_frozen BK313.out 0)|(go_at_call 98;(with_reducible refine (spec_l1Some.calls k _ _ l1 (l0_0.length:Int) true _ (yc (Kd.C_below HR1.out HB.out)) HC1.out A6.out).mono ?_);rintro e w' ⟨rfl,⟨nd,rfl⟩⟩;(try (rw [drewN_self w32];generalize hq_:World.drewN w32 _=w32;have n0_:Aside0 (w32.heap[gb312]? = some (.cells #[.slice A0_0 l0_0.length c0_0] 27 (0,0))):=⟨d51⟩;have n1_:Aside0 (w32.heap[gb313]? = some (.cells #[.slice none 0 0] 27 (0,0))):=⟨d50⟩;have n2_:Aside0 (Below w.heap.size w w32):=⟨d19⟩;clear BK312 BK313 HB hq_;have BK312:=n0_;have BK313:=n1_;have HB:=n2_;clear n0_ n1_ n2_));have p316:0≤(0:Int):=d13;have q316:0 < (l0_0.length:Int):=od d1;obtain ⟨ad316,A316_0,c316_0,e316,hx316_0,hl316_0,hi316_0⟩:=at_L1 HR0_0.out 0 p316 q316;cases e316;have qi316:(0 < l0_0.length)=True:=eq_true d13;(try rw [show ((0:Int)).toNat=0 from rfl] at hx316_0);(try rw [Addr.add_zero'] at hx316_0);replace hx316_0:=(HB.out.cell (World.block_lt_of_cell? w _ hx316_0)).trans hx316_0;have HR316_0:=am hi316_0;have HC316_0:=am hl316_0;clear hi316_0 hl316_0;replace p316:=eq_true p316;replace q316:=eq_true q316;have hm_BK312:_=some _:=(blk_cell BK312.out 0).trans rfl;have hn_BK312:=blk_frozen BK312.out 0;have hm_BK313:_=some _:=(blk_cell BK313.out 0).trans rfl;have hn_BK313:=blk_frozen BK313.out 0)|(go_at_call 98;(with_reducible refine (spec_l1Some.calls k _ _ l2 ((rd_L1 l0_0 0).length:Int) true _ (yc (Kd.C_below HR2.out HB.out)) HC2.out A9.out).mono ?_);rintro e w' ⟨rfl,⟨nd,rfl⟩⟩;(try (rw [drewN_self w32];generalize hq_:World.drewN w32 _=w32;have n0_:Aside0 (w32.heap[gb312]? = some (.cells #[.slice (some ad316) l0_0.length c0_0] 27 (0,0))):=⟨d51⟩;have n1_:Aside0 (w32.heap[gb313]? = some (.cells #[.slice none 0 0] 27 (0,0))):=⟨d50⟩;have n2_:Aside0 (Below w.heap.size w w32):=⟨d19⟩;clear BK312 BK313 HB hq_;have BK312:=n0_;have BK313:=n1_;have HB:=n2_;clear n0_ n1_ n2_));have hm_BK312:_=some _:=(blk_cell BK312.out 0).trans rfl;have hn_BK312:=blk_frozen BK312.out 0;have hm_BK313:_=some _:=(blk_cell BK313.out 0).trans rfl;have hn_BK313:=blk_frozen BK313.out 0)|((with_reducible refine gC 99 ?_);refine gM (some 43) Try.func99 (args:=#[.agg #[.slice (some ad316) l0_0.length c0_0], .slice A1 l1.length c1, .slice A2 l2.length c2]) (spec_l2Part.calls k _ _ l0_0 _ _ l1 _ _ l2 t318 _ (yc (Kd.C_below HR0_0.out HB.out)) HC0_0.out (yc (Kd.C_below HR1.out HB.out)) HC1.out (yc (Kd.C_below HR2.out HB.out)) HC2.out A27.out) ?_;rintro e w34 ⟨v319,rfl,ho0,hb⟩;refine ⟨_,rfl,?_⟩;have HO320:=am (Kd.S_lower ho0 (pz (yW HB)));replace BK312:=yb BK312 hb;replace BK313:=yb BK313 hb;replace HB:=yH HB hb;clear hb ho0;obtain ⟨Ao35,co35,eo35⟩:=Kd.S_slice HO320.out;subst eo35;obtain ⟨hcz36_0,hfz36_0⟩:=yk1 BK313;have hm_BK312:_=some _:=(blk_cell BK312.out 0).trans rfl;have hn_BK312:=blk_frozen BK312.out 0;have hm_BK313:_=some _:=(blk_cell BK313.out 0).trans rfl;have hn_BK313:=blk_frozen BK313.out 0))
    refine bodyPost_ret (results_ct rfl _ _ gb313 27 #[.slice Ao35 t318.length co35] (0,0) _ rfl d27 Try.underlying27 rfl d12) rfl ?_
    exact ⟨_,d2,by refine sS ?_;exact Kd.S_mono (Kd.S_far (p:=⟨gb313,0,none⟩) (Kd.S_types HO320.out BK313.out d9) (fun _ hk=>hk.2) (.slice Ao35 t318.length co35)) (fun _ hk=>trivial),yW HB⟩
   replace c10:=Bool.eq_false_iff.mpr c10
   subst c10
   replace H:=yn H
   simp only [Option.some.injEq,Prod.mk.injEq] at H
   obtain ⟨rfl,rfl⟩:=H
   go_enter Try.func42,Try.ntmps42
   go_wp2_with (first|((with_reducible refine gD 3 ?_);(try (refine gate_guard d20 ?_;dsimp only));refine gB (cs:=#[.slice A0_0 l0_0.length c0_0]) 27 ?_;intro gb312 hg w37 hbox hb;have BK312:=am (hbox);have GW312:=ye HB hg;replace HB:=yH HB hb;have GE312:=GW312;clear hb hbox hg)|((with_reducible refine gD 6 ?_);(try (refine gate_guard d20 ?_;dsimp only));refine gB (cs:=#[.slice none 0 0]) 27 ?_;intro gb313 hg w38 hbox hb;have BK313:=am (hbox);have GW313:=ye HB hg;replace HB:=yH HB hb;have NB312_313:=yl BK312 hg;have NB313_312:=yg BK312 hg;replace BK312:=yb BK312 hb;have GE313:=GW313;clear hb hbox hg;have hnb39:=NB312_313.out;have hnc39:=NB313_312.out;obtain ⟨hcz40_0,hfz40_0⟩:=yk1 BK312)|((with_reducible refine gC 97 ?_);refine gM (some 9) Try.func97 (args:=#[.agg #[.slice A0_0 l0_0.length c0_0]]) (spec_GoodMatrix.calls k _ _ l0_0 true _ (yc (Kd.C_below HR0_0.out HB.out)) HC0_0.out A4.out) ?_;rintro e w41 ⟨rfl,hb⟩;refine ⟨_,rfl,?_⟩;replace BK312:=yb BK312 hb;replace BK313:=yb BK313 hb;replace HB:=yH HB hb;clear hb;obtain ⟨hcz42_0,hfz42_0⟩:=yk1 BK312;have hm_BK312:_=some _:=(blk_cell BK312.out 0).trans rfl;have hn_BK312:=blk_frozen BK312.out 0;have hm_BK313:_=some _:=(blk_cell BK313.out 0).trans rfl;have hn_BK313:=blk_frozen BK313.out 0)|(go_at_call 98;(with_reducible refine (spec_l1Some.calls k _ _ l1 (l0_0.length:Int) true _ (yc (Kd.C_below HR1.out HB.out)) HC1.out A6.out).mono ?_);rintro e w' ⟨rfl,⟨nd,rfl⟩⟩;(try (rw [drewN_self w41];generalize hq_:World.drewN w41 _=w41;have n0_:Aside0 (w41.heap[gb312]? = some (.cells #[.slice A0_0 l0_0.length c0_0] 27 (0,0))):=⟨d51⟩;have n1_:Aside0 (w41.heap[gb313]? = some (.cells #[.slice none 0 0] 27 (0,0))):=⟨d50⟩;have n2_:Aside0 (Below w.heap.size w w41):=⟨d19⟩;clear BK312 BK313 HB hq_;have BK312:=n0_;have BK313:=n1_;have HB:=n2_;clear n0_ n1_ n2_));have p316:0≤(0:Int):=d13;have q316:0 < (l0_0.length:Int):=od d1;obtain ⟨ad316,A316_0,c316_0,e316,hx316_0,hl316_0,hi316_0⟩:=at_L1 HR0_0.out 0 p316 q316;cases e316;have qi316:(0 < l0_0.length)=True:=eq_true d13;(try rw [show ((0:Int)).toNat=0 from rfl] at hx316_0);(try rw [Addr.add_zero'] at hx316_0);replace hx316_0:=(HB.out.cell (World.block_lt_of_cell? w _ hx316_0)).trans hx316_0;have HR316_0:=am hi316_0;have HC316_0:=am hl316_0;clear hi316_0 hl316_0;replace p316:=eq_true p316;replace q316:=eq_true q316;have hm_BK312:_=some _:=(blk_cell BK312.out 0).trans rfl;have hn_BK312:=blk_frozen BK312.out 0;have hm_BK313:_=some _:=(blk_cell BK313.out 0).trans rfl;have hn_BK313:=blk_frozen BK313.out 0)|(go_at_call 98;(with_reducible refine (spec_l1Some.calls k _ _ l2 ((rd_L1 l0_0 0).length:Int) false _ (yc (Kd.C_below HR2.out HB.out)) HC2.out A9.out).mono ?_);rintro e w' ⟨rfl,⟨nd,rfl⟩⟩;(try (rw [drewN_self w41];generalize hq_:World.drewN w41 _=w41;have n0_:Aside0 (w41.heap[gb312]? = some (.cells #[.slice (some ad316) l0_0.length c0_0] 27 (0,0))):=⟨d51⟩;have n1_:Aside0 (w41.heap[gb313]? = some (.cells #[.slice none 0 0] 27 (0,0))):=⟨d50⟩;have n2_:Aside0 (Below w.heap.size w w41):=⟨d19⟩;clear BK312 BK313 HB hq_;have BK312:=n0_;have BK313:=n1_;have HB:=n2_;clear n0_ n1_ n2_));obtain ⟨hcz43_0,hfz43_0⟩:=yk1 BK313;have hm_BK312:_=some _:=(blk_cell BK312.out 0).trans rfl;have hn_BK312:=blk_frozen BK312.out 0;have hm_BK313:_=some _:=(blk_cell BK313.out 0).trans rfl;have hn_BK313:=blk_frozen BK313.out 0))
   refine bodyPost_ret (results_ct rfl _ _ gb313 27 #[.slice none 0 0] (0,0) _ rfl d27 Try.underlying27 rfl d12) rfl ?_
   exact ⟨_,d2,d11,yW HB⟩
  replace c7:=Bool.eq_false_iff.mpr c7
  subst c7
  replace H:=yn H
  simp only [Option.some.injEq,Prod.mk.injEq] at H
  obtain ⟨rfl,rfl⟩:=H
  go_enter Try.func42,Try.ntmps42
  go_wp2_with (first|((with_reducible refine gD 3 ?_);(try (refine gate_guard d20 ?_;dsimp only));refine gB (cs:=#[.slice A0_0 l0_0.length c0_0]) 27 ?_;intro gb312 hg w44 hbox hb;have BK312:=am (hbox);have GW312:=ye HB hg;replace HB:=yH HB hb;have GE312:=GW312;clear hb hbox hg)|((with_reducible refine gD 6 ?_);(try (refine gate_guard d20 ?_;dsimp only));refine gB (cs:=#[.slice none 0 0]) 27 ?_;intro gb313 hg w45 hbox hb;have BK313:=am (hbox);have GW313:=ye HB hg;replace HB:=yH HB hb;have NB312_313:=yl BK312 hg;have NB313_312:=yg BK312 hg;replace BK312:=yb BK312 hb;have GE313:=GW313;clear hb hbox hg;have hnb46:=NB312_313.out;have hnc46:=NB313_312.out;obtain ⟨hcz47_0,hfz47_0⟩:=yk1 BK312)|((with_reducible refine gC 97 ?_);refine gM (some 9) Try.func97 (args:=#[.agg #[.slice A0_0 l0_0.length c0_0]]) (spec_GoodMatrix.calls k _ _ l0_0 true _ (yc (Kd.C_below HR0_0.out HB.out)) HC0_0.out A4.out) ?_;rintro e w48 ⟨rfl,hb⟩;refine ⟨_,rfl,?_⟩;replace BK312:=yb BK312 hb;replace BK313:=yb BK313 hb;replace HB:=yH HB hb;clear hb;obtain ⟨hcz49_0,hfz49_0⟩:=yk1 BK312;have hm_BK312:_=some _:=(blk_cell BK312.out 0).trans rfl;have hn_BK312:=blk_frozen BK312.out 0;have hm_BK313:_=some _:=(blk_cell BK313.out 0).trans rfl;have hn_BK313:=blk_frozen BK313.out 0)|(go_at_call 98;(with_reducible refine (spec_l1Some.calls k _ _ l1 (l0_0.length:Int) false _ (yc (Kd.C_below HR1.out HB.out)) HC1.out A6.out).mono ?_);rintro e w' ⟨rfl,⟨nd,rfl⟩⟩;(try (rw [drewN_self w48];generalize hq_:World.drewN w48 _=w48;have n0_:Aside0 (w48.heap[gb312]? = some (.cells #[.slice A0_0 l0_0.length c0_0] 27 (0,0))):=⟨d51⟩;have n1_:Aside0 (w48.heap[gb313]? = some (.cells #[.slice none 0 0] 27 (0,0))):=⟨d50⟩;have n2_:Aside0 (Below w.heap.size w w48):=⟨d19⟩;clear BK312 BK313 HB hq_;have BK312:=n0_;have BK313:=n1_;have HB:=n2_;clear n0_ n1_ n2_));obtain ⟨hcz50_0,hfz50_0⟩:=yk1 BK313;have hm_BK312:_=some _:=(blk_cell BK312.out 0).trans rfl;have hn_BK312:=blk_frozen BK312.out 0;have hm_BK313:_=some _:=(blk_cell BK313.out 0).trans rfl;have hn_BK313:=blk_frozen BK313.out 0))
  refine bodyPost_ret (results_ct rfl _ _ gb313 27 #[.slice none 0 0] (0,0) _ rfl d27 Try.underlying27 rfl d12) rfl ?_
  exact ⟨_,d2,d11,yW HB⟩
 replace c5:=Bool.eq_false_iff.mpr c5
 subst c5
 replace H:=yn H
 simp only [Option.some.injEq,Prod.mk.injEq] at H
 obtain ⟨rfl,rfl⟩:=H
 go_enter Try.func42,Try.ntmps42
 go_wp2_with (first|((with_reducible refine gD 3 ?_);(try (refine gate_guard d20 ?_;dsimp only));refine gB (cs:=#[.slice A0_0 l0_0.length c0_0]) 27 ?_;intro gb312 hg w51 hbox hb;have BK312:=am (hbox);have GW312:=ye HB hg;replace HB:=yH HB hb;have GE312:=GW312;clear hb hbox hg)|((with_reducible refine gD 6 ?_);(try (refine gate_guard d20 ?_;dsimp only));refine gB (cs:=#[.slice none 0 0]) 27 ?_;intro gb313 hg w52 hbox hb;have BK313:=am (hbox);have GW313:=ye HB hg;replace HB:=yH HB hb;have NB312_313:=yl BK312 hg;have NB313_312:=yg BK312 hg;replace BK312:=yb BK312 hb;have GE313:=GW313;clear hb hbox hg;have hnb53:=NB312_313.out;have hnc53:=NB313_312.out;obtain ⟨hcz54_0,hfz54_0⟩:=yk1 BK312)|((with_reducible refine gC 97 ?_);refine gM (some 9) Try.func97 (args:=#[.agg #[.slice A0_0 l0_0.length c0_0]]) (spec_GoodMatrix.calls k _ _ l0_0 false _ (yc (Kd.C_below HR0_0.out HB.out)) HC0_0.out A4.out) ?_;rintro e w55 ⟨rfl,hb⟩;refine ⟨_,rfl,?_⟩;replace BK312:=yb BK312 hb;replace BK313:=yb BK313 hb;replace HB:=yH HB hb;clear hb;obtain ⟨hcz56_0,hfz56_0⟩:=yk1 BK313;have hm_BK312:_=some _:=(blk_cell BK312.out 0).trans rfl;have hn_BK312:=blk_frozen BK312.out 0;have hm_BK313:_=some _:=(blk_cell BK313.out 0).trans rfl;have hn_BK313:=blk_frozen BK313.out 0))
 refine bodyPost_ret (results_ct rfl _ _ gb313 27 #[.slice none 0 0] (0,0) _ rfl d27 Try.underlying27 rfl d12) rfl ?_
 exact ⟨_,d2,d11,yW HB⟩
end Go.Proofs.Yteflgifmdojahaa.PFnCauchy
-- SQUEEZED
