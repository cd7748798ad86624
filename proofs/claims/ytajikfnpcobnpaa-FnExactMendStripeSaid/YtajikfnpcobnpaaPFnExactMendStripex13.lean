-- Laid by a program of this session.
import Derived.Test.YtajikfnpcobnpaaVMendStripeB
import Derived.Test.YtajikfnpcobnpaaPFnExactMendStripex0
import Derived.Test.YtajikfnpcobnpaaPFnExactMendStripex12
namespace Go.Proofs.Ytajikfnpcobnpaa.PFnExactMendStripe
open Go.RowKit Go.Proofs.YtajikfnpcobnpaaW.PrintWords Go.Proofs.YtajikfnpcobnpaaW.PrintLast Go.Proofs.YtajikfnpcobnpaaW.PrintMore Go.Proofs.Ytajikfnpcobnpaa.KitS
attribute [local go_sem] max2_int min2_int max_two min_two max_three min_three max_four min_four   -- for this text's walks alone
set_option linter.unusedVariables false
set_option maxHeartbeats 8000000
set_option maxRecDepth 100000
set_option linter.unusedSimpArgs false

def impl_GoodStripe.f (l0_0:List ByteArray) (l0_1:List ByteArray):Option (Bool):=(impl_within.f (l0_0.length:Int) 1 16).bind fun t245=>(if t245=true then ((impl_within.f (l0_1.length:Int) 1 4).bind fun t246=>(if t246=true then ((slices_Clone_string_string.f l0_0).bind fun t247=>(if t247.length+l0_1.length < 8796093022208 then ((impl_areEqual.f (t247 ++ l0_1)).bind fun t253=>(some t253)) else (none))) else (some false))) else (some false))
def impl_GoodStripe.T1:Bool × List (List Nat × List Nat):=(true,[([],[]),([0],[0]),([1],[1]),([2],[2]),([3,3],[3]),([4],[4]),([5,4],[4,5]),([6,4],[4,6]),([7,4,4],[4,7]),([4,8],[4,8]),([9,8],[9]),([10],[10]),([11,10],[10,11]),([12,10,10],[10,12]),([10],[10]),([14,10],[10,14]),([13,15,13,10],[10,13,15]),([16,16,10],[10,16]),([10,17],[10,17]),([18,17,0,1,2,3,4,5,6,7,8,9,10,11,12,13,14,15,16,17,18],[18])])
def impl_GoodStripe.B1:List Nat:=[0,1,3,7,15,31,63,127,255,511,1023,2047,4095,8191,2047,18431,65535,131071,262143,524287]
theorem impl_GoodStripe.tab1:rtab .any (opsOf Try.f95 1)=impl_GoodStripe.T1:=by kernel_rfl
theorem impl_GoodStripe.bits1:waitsOk impl_GoodStripe.T1.2 impl_GoodStripe.B1=true:=by kernel_rfl
theorem impl_GoodStripe.calls (A0_0:Option Addr) (c0_0:Nat) (l0_0:List ByteArray) (A0_1:Option Addr) (c0_1:Nat) (l0_1:List ByteArray) (r:Bool) (w:World) (hr0_0:Kd.C Kd.string w A0_0 l0_0.length l0_0) (hc0_0:l0_0.length≤c0_0) (hr0_1:Kd.C Kd.string w A0_1 l0_1.length l0_1) (hc0_1:l0_1.length≤c0_1) (h:impl_GoodStripe.f l0_0 l0_1=some r) :
  Calls Try.prog 95 #[.agg #[.slice A0_0 l0_0.length c0_0, .slice A0_1 l0_1.length c0_1]] w fun e w'=>e = .returned (.bool r)∧Below w.heap.size w w':=by
 have hu27:=Try.underlying27
 have HR0_0:=am hr0_0
 have HC0_0:=am hc0_0
 clear hr0_0 hc0_0
 have HR0_1:=am hr0_1
 have HC0_1:=am hc0_1
 clear hr0_1 hc0_1
 have HB:=am (Below.refl w.heap.size w)
 have H:=h
 unfold impl_GoodStripe.f at H
 clear h
 obtain ⟨t245,A2,H⟩:=yo H
 by_cases c3:t245=true
 ·subst c3
  replace H:=yt H
  obtain ⟨t246,A4,H⟩:=yo H
  by_cases c5:t246=true
  ·subst c5
   replace H:=yt H
   obtain ⟨t247,A6,H⟩:=yo H
   obtain ⟨c7,H⟩:=yi H
   have LMc7:=am c7
   clear c7
   generalize hy250:(t247 ++ l0_1:List ByteArray)=y250 at H
   have Ny250:=am hy250.symm
   clear hy250
   obtain ⟨t253,A8,H⟩:=yo H
   obtain rfl:=Option.some.inj H
   go_enter Try.func95,Try.ntmps95
   try go_wp2_with (first|(refine gD 1 ?_;(try (refine gate_guard D10 ?_;dsimp only));refine gB (cs:=#[.slice A0_0 l0_0.length c0_0, .slice A0_1 l0_1.length c0_1]) 27 ?_;intro gb244 hg w9 hbox hb;have BK244:=am (hbox);have GW244:=ye HB hg;replace HB:=yH HB hb;have GE244:=GW244;clear hb hbox hg))
   replace BK244:=am (qd BK244.out)
   replace HB:=am (pd HB.out)
   refine rS (n:=20) (S:=fun w'=>w'.cell? ⟨gb244,0,none⟩=some (.slice A0_0 l0_0.length c0_0)∧w'.cell? ⟨gb244,1,none⟩=some (.slice A0_1 l0_1.length c0_1)) (ds:=[]) [(0,3),(1,4),(2,5),(3,0),(4,7),(5,8),(6,9),(7,10),(8,0),(9,12),(10,13),(11,14),(14,17),(12,15),(15,18),(13,0),(16,0),(17,0),(18,21),(19,2)] D2 rfl impl_GoodStripe.tab1 impl_GoodStripe.bits1 ⟨(blk_cell BK244.out 0).trans rfl,(blk_cell BK244.out 1).trans rfl⟩ (fun hHeld HT_ HW_=>?_)
   generalize w9.drew=w10 at BK244 HB hHeld ⊢
   refine rR ?_
   refine rO (N:=some 6) HT_ rfl rfl D2 D6 (fun K hK=>?_)
   refine goes_ Try.func137 D2 rfl #[.int .i64 (l0_0.length:Int), .int .i64 1, .int .i64 16] D10 rfl rfl D4 ?_
   with_reducible refine (impl_within.calls (l0_0.length:Int) 1 16 true _ A2.out).mono ?_
   rintro e w' ⟨rfl,⟨nd,rfl⟩⟩
   refine ⟨_,rfl,?_⟩
   refine hK.out _ _ ⟨(blk_cell BK244.out 0).trans rfl,(blk_cell BK244.out 1).trans rfl⟩ (fun hHeld=>?_)
   clear hK K
   refine rN (a':=?_) ?_ ?_
   rotate_left
   ·show Act.put _ (some 6) _=_
    simp only [Act.put,q1,q2,q3,i64_w,i32_w]
    rfl
   refine rR ?_
   refine rO (N:=some 11) HT_ rfl rfl D2 D6 (fun K hK=>?_)
   refine goes_ Try.func137 D2 rfl #[.int .i64 (l0_1.length:Int), .int .i64 1, .int .i64 4] D10 rfl rfl D4 ?_
   with_reducible refine (impl_within.calls (l0_1.length:Int) 1 4 true _ A4.out).mono ?_
   rintro e w' ⟨rfl,⟨nd,rfl⟩⟩
   refine ⟨_,rfl,?_⟩
   refine hK.out _ _ ⟨(blk_cell BK244.out 0).trans rfl,(blk_cell BK244.out 1).trans rfl⟩ (fun hHeld=>?_)
   clear hK K
   refine rN (a':=?_) ?_ ?_
   rotate_left
   ·show Act.put _ (some 11) _=_
    simp only [Act.put,q1,q2,q3,i64_w,i32_w]
    rfl
   refine rR ?_
   refine rO (N:=some 16) HT_ rfl rfl D2 D6 (fun K hK=>?_)
   refine goes_ Try.func97 D2 rfl #[.slice A0_0 l0_0.length c0_0] D10 rfl rfl D4 ?_
   with_reducible refine (slices_Clone_string_string.calls _ _ l0_0 t247 _ ?side1 ?side2 A6.out).mono ?_
   (case side1=>repeat (first|exact (Kd.C_below HR0_0.out (yW HB))|(with_reducible refine Kd.C_alloc ?_ _)|(with_reducible refine Kd.C_drewN ?_ _)|(with_reducible refine Kd.C_drew ?_)))
   (case side2=>exact HC0_0.out)
   rintro e w11 ⟨v248,rfl,ho0,hb⟩
   refine ⟨_,rfl,?_⟩
   have HO249:=am (Kd.R_lower ho0 (pz (yW HB)))
   replace BK244:=yb BK244 hb
   replace HB:=yH HB hb
   (try clear hb)
   (try clear hb2)
   (try clear hk)
   (try clear hi)
   (try clear ho0)
   refine hK.out _ _ ⟨(blk_cell BK244.out 0).trans rfl,(blk_cell BK244.out 1).trans rfl⟩ (fun hHeld=>?_)
   clear hK K
   refine rN (a':=?_) ?_ ?_
   rotate_left
   ·show Act.put _ (some 16) _=_
    simp only [Act.put,q1,q2,q3,i64_w,i32_w]
    rfl
   refine rO (N:=some 19) HT_ rfl rfl D2 D6 (fun K hK=>?_)
   refine Kd.R_append_rows_step Kd.string (w0:=w) w.heap.size D10 (.tmp 16) (.tmp 18) 22 9 (.string ⟨#[]⟩) 16 rfl Try.underlying22 info9 rfl D6 D8 v248 t247 l0_1 _ _ _ (fun _=>True) (fun _=>False) rfl rfl ?aO ?aR (fun _ _ h=>h) (fun _ h=>h.elim) ?aF ?aB ?aS ?aL ?_
   (case aR=>repeat (first|exact (Kd.C_below HR0_1.out HB.out)|(with_reducible refine Kd.C_alloc ?_ _)|(with_reducible refine Kd.C_drewN ?_ _)|(with_reducible refine Kd.C_drew ?_)))
   (case aB=>exact (yW HB))
   (case aF=>exact (fun _ _=>trivial))
   (case aO=>exact (yR HO249))
   (case aS=>exact (pz (yW HB)))
   (case aL=>have:=LMc7.out;omega)
   intro v251 w12 ho hb hg hat
   rw [← Ny250.out] at ho
   have n0_:=am (blk_grown (g:=gb244) (o:=.cells #[.slice A0_0 l0_0.length c0_0, .slice A0_1 l0_1.length c0_1] 27 (0,0)) (yB BK244) hg (Kd.R_ne HO249.out BK244.out D6))
   have n1_:=am (hb)
   have n2_:=am (ho)
   clear BK244
   clear HB
   clear HO249
   have BK244:=n0_
   have HB:=n1_
   have HO252:=n2_
   clear n0_ n1_ n2_
   clear ho hb hg hat
   obtain ⟨Ao13,co13,eo13⟩:=Kd.R_slice HO252.out
   (first|subst eo13|(injection eo13 with f1_ f2_ f3_;have f4_:=f1_.symm;have f5_:=f3_.symm;clear f1_ f2_ f3_;subst f4_;subst f5_))
   refine hK.out _ _ ⟨(blk_cell BK244.out 0).trans rfl,(blk_cell BK244.out 1).trans rfl⟩ (fun hHeld=>?_)
   clear hK K
   refine rN (a':=?_) ?_ ?_
   rotate_left
   ·show Act.put _ (some 19) _=_
    simp only [Act.put,q1,q2,q3,i64_w,i32_w]
    rfl
   refine rO (N:=some 20) HT_ rfl rfl D2 D6 (fun K hK=>?_)
   refine goes_ Try.func177 D2 rfl #[.slice Ao13 y250.length co13] D10 rfl rfl D4 ?_
   with_reducible refine (impl_areEqual.calls _ _ y250 t253 _ ?side1 ?side2 A8.out).mono ?_
   (case side1=>repeat (first|exact (Kd.R_reads' HO252.out).2.2|(with_reducible refine Kd.C_alloc ?_ _)|(with_reducible refine Kd.C_drewN ?_ _)|(with_reducible refine Kd.C_drew ?_)))
   (case side2=>exact (Kd.R_reads' HO252.out).2.1)
   rintro e w14 ⟨rfl,hb⟩
   refine ⟨_,rfl,?_⟩
   replace HO252:=bR HO252 hb
   replace BK244:=yb BK244 hb
   replace HB:=yH HB hb
   (try clear hb)
   (try clear hb2)
   (try clear hk)
   (try clear hi)
   refine hK.out _ _ ⟨(blk_cell BK244.out 0).trans rfl,(blk_cell BK244.out 1).trans rfl⟩ (fun hHeld=>?_)
   clear hK K
   refine rN (a':=?_) ?_ ?_
   rotate_left
   ·show Act.put _ (some 20) _=_
    simp only [Act.put,q1,q2,q3,i64_w,i32_w]
    rfl
   refine rR ?_
   refine rD HT_ D2 ?_
   try go_wp2
   go_ret
   exact ⟨D3,yW HB⟩
  replace c5:=Bool.eq_false_iff.mpr c5
  subst c5
  replace H:=yn H
  obtain rfl:=Option.some.inj H
  go_enter Try.func95,Try.ntmps95
  try go_wp2_with (first|(refine gD 1 ?_;(try (refine gate_guard D10 ?_;dsimp only));refine gB (cs:=#[.slice A0_0 l0_0.length c0_0, .slice A0_1 l0_1.length c0_1]) 27 ?_;intro gb244 hg w15 hbox hb;have BK244:=am (hbox);have GW244:=ye HB hg;replace HB:=yH HB hb;have GE244:=GW244;clear hb hbox hg))
  replace BK244:=am (qd BK244.out)
  replace HB:=am (pd HB.out)
  refine rS (n:=20) (S:=fun w'=>w'.cell? ⟨gb244,0,none⟩=some (.slice A0_0 l0_0.length c0_0)∧w'.cell? ⟨gb244,1,none⟩=some (.slice A0_1 l0_1.length c0_1)) (ds:=[]) [(0,3),(1,4),(2,5),(3,0),(4,7),(5,8),(6,9),(7,10),(8,0),(9,12),(10,13),(11,14),(12,15),(13,16),(14,17),(15,18),(16,19),(17,20),(18,21),(19,2)] D2 rfl impl_GoodStripe.tab1 impl_GoodStripe.bits1 ⟨(blk_cell BK244.out 0).trans rfl,(blk_cell BK244.out 1).trans rfl⟩ (fun hHeld HT_ HW_=>?_)
  generalize w15.drew=w16 at BK244 HB hHeld ⊢
  refine rR ?_
  refine rO (N:=some 6) HT_ rfl rfl D2 D6 (fun K hK=>?_)
  refine goes_ Try.func137 D2 rfl #[.int .i64 (l0_0.length:Int), .int .i64 1, .int .i64 16] D10 rfl rfl D4 ?_
  with_reducible refine (impl_within.calls (l0_0.length:Int) 1 16 true _ A2.out).mono ?_
  rintro e w' ⟨rfl,⟨nd,rfl⟩⟩
  refine ⟨_,rfl,?_⟩
  refine hK.out _ _ ⟨(blk_cell BK244.out 0).trans rfl,(blk_cell BK244.out 1).trans rfl⟩ (fun hHeld=>?_)
  clear hK K
  refine rN (a':=?_) ?_ ?_
  rotate_left
  ·show Act.put _ (some 6) _=_
   simp only [Act.put,q1,q2,q3,i64_w,i32_w]
   rfl
  refine rR ?_
  refine rO (N:=some 11) HT_ rfl rfl D2 D6 (fun K hK=>?_)
  refine goes_ Try.func137 D2 rfl #[.int .i64 (l0_1.length:Int), .int .i64 1, .int .i64 4] D10 rfl rfl D4 ?_
  with_reducible refine (impl_within.calls (l0_1.length:Int) 1 4 false _ A4.out).mono ?_
  rintro e w' ⟨rfl,⟨nd,rfl⟩⟩
  refine ⟨_,rfl,?_⟩
  refine hK.out _ _ ⟨(blk_cell BK244.out 0).trans rfl,(blk_cell BK244.out 1).trans rfl⟩ (fun hHeld=>?_)
  clear hK K
  refine rN (a':=?_) ?_ ?_
  rotate_left
  ·show Act.put _ (some 11) _=_
   simp only [Act.put,q1,q2,q3,i64_w,i32_w]
   rfl
  refine rR ?_
  refine rD HT_ D2 ?_
  try go_wp2
  go_ret
  exact ⟨D3,yW HB⟩
 replace c3:=Bool.eq_false_iff.mpr c3
 subst c3
 replace H:=yn H
 obtain rfl:=Option.some.inj H
 go_enter Try.func95,Try.ntmps95
 try go_wp2_with (first|(refine gD 1 ?_;(try (refine gate_guard D10 ?_;dsimp only));refine gB (cs:=#[.slice A0_0 l0_0.length c0_0, .slice A0_1 l0_1.length c0_1]) 27 ?_;intro gb244 hg w17 hbox hb;have BK244:=am (hbox);have GW244:=ye HB hg;replace HB:=yH HB hb;have GE244:=GW244;clear hb hbox hg))
 replace BK244:=am (qd BK244.out)
 replace HB:=am (pd HB.out)
 refine rS (n:=20) (S:=fun w'=>w'.cell? ⟨gb244,0,none⟩=some (.slice A0_0 l0_0.length c0_0)∧w'.cell? ⟨gb244,1,none⟩=some (.slice A0_1 l0_1.length c0_1)) (ds:=[]) [(0,3),(1,4),(2,5),(3,0),(4,7),(5,8),(6,9),(7,10),(8,11),(9,12),(10,13),(11,14),(12,15),(13,16),(14,17),(15,18),(16,19),(17,20),(18,21),(19,2)] D2 rfl impl_GoodStripe.tab1 impl_GoodStripe.bits1 ⟨(blk_cell BK244.out 0).trans rfl,(blk_cell BK244.out 1).trans rfl⟩ (fun hHeld HT_ HW_=>?_)
 generalize w17.drew=w18 at BK244 HB hHeld ⊢
 refine rR ?_
 refine rO (N:=some 6) HT_ rfl rfl D2 D6 (fun K hK=>?_)
 refine goes_ Try.func137 D2 rfl #[.int .i64 (l0_0.length:Int), .int .i64 1, .int .i64 16] D10 rfl rfl D4 ?_
 with_reducible refine (impl_within.calls (l0_0.length:Int) 1 16 false _ A2.out).mono ?_
 rintro e w' ⟨rfl,⟨nd,rfl⟩⟩
 refine ⟨_,rfl,?_⟩
 refine hK.out _ _ ⟨(blk_cell BK244.out 0).trans rfl,(blk_cell BK244.out 1).trans rfl⟩ (fun hHeld=>?_)
 clear hK K
 refine rN (a':=?_) ?_ ?_
 rotate_left
 ·show Act.put _ (some 6) _=_
  simp only [Act.put,q1,q2,q3,i64_w,i32_w]
  rfl
 refine rR ?_
 refine rD HT_ D2 ?_
 try go_wp2
 go_ret
 exact ⟨D3,yW HB⟩

def impl_isIncreasing.l0:Nat→List Int→Int→List Int→Int→Int→Option (Bool)
 | 0,_,_,_,_,_=>none
 | k+1,x0,x1,x7,x8,x9=>if x9 < x8 then (if 0≤x9 then (if x9 < (x7.length:Int) then ((impl_within.f (rd x7 x9) 0 (wrap64 (x1 - 1))).bind fun t255=>(if t255=true then (if x9 > 0 then (if 0≤(wrap64 (x9 - 1)) then (if (wrap64 (x9 - 1)) < (x0.length:Int) then (if (rd x7 x9)≤(rd x0 (wrap64 (x9 - 1))) then (some false) else (impl_isIncreasing.l0 k x0 x1 x7 x8 (wrap64 (x9+1)))) else (none)) else (none)) else (impl_isIncreasing.l0 k x0 x1 x7 x8 (wrap64 (x9+1)))) else (some false))) else (none)) else (none)) else (some true)
def impl_isIncreasing.f (k:Nat) (l0:List Int) (a1:Int):Option (Bool):=impl_isIncreasing.l0 k l0 a1 l0 (l0.length:Int) 0
theorem impl_isIncreasing.mono_l:∀ k,(∀ y0 y1 y2 y3 y4,LeO (impl_isIncreasing.l0 k y0 y1 y2 y3 y4) (impl_isIncreasing.l0 (k+1) y0 y1 y2 y3 y4))
 | 0=>fun _ _ _ _ _ r h=>by simp [impl_isIncreasing.l0] at h
 | k+1=>by
  have ih0:=impl_isIncreasing.mono_l k
  intro y0 y1 y2 y3 y4
  unfold impl_isIncreasing.l0
  exact mm
theorem impl_isIncreasing.mono:∀ a0 a1 k,LeO (impl_isIncreasing.f k a0 a1) (impl_isIncreasing.f (k+1) a0 a1):=by
 intro a0 a1 k
 have ih0:=impl_isIncreasing.mono_l k
 unfold impl_isIncreasing.f
 exact mm
theorem impl_isIncreasing.calls (k:Nat) (A0:Option Addr) (c0:Nat) (l0:List Int) (a1:Int) (r:Bool) (w:World) (hr0:Kd.C (Kd.int .i64) w A0 l0.length l0) (hc0:l0.length≤c0) (h:impl_isIncreasing.f k l0 a1=some r) :
  Calls Try.prog 96 #[.slice A0 l0.length c0, .int .i64 a1] w fun e w'=>e = .returned (.bool r)∧Drawn0 w w':=by
 have HR0:=am hr0
 have HC0:=am hc0
 clear hr0 hc0
 have H:=h
 unfold impl_isIncreasing.f at H
 clear h
 have H':=am H
 clear H
 go_enter Try.func96,Try.ntmps96
 go_wp2
 go_loopg [9] k (fun kq v9 w'=>∃ (x9_1:Int),v9 = .int .i64 x9_1∧Aside0 (impl_isIncreasing.l0 kq l0 a1 l0 (l0.length:Int) x9_1=some r)∧Aside0 (kq≤k)∧Drawn0 w w')
 case atStart=>exact ⟨(0),D1,H',⟨Nat.le_refl _⟩,D5⟩
 case round =>
  clear H'
  try clear p2
  obtain ⟨x9_1,rfl,HA,HK1,⟨m1,rfl⟩⟩:=hrel
  cases gk with
  | zero=>exact absurd HA.out (by simp [impl_isIncreasing.l0])
  | succ k1 =>
   have H:=HA.out
   clear HA
   simp only [impl_isIncreasing.l0] at H
   by_cases c3:x9_1 < (l0.length:Int)
   ·rw [if_pos c3] at H
    have c3b0:=decide_eq_true c3
    clear c3
    obtain ⟨c4,H⟩:=yi H
    have c4b0:=decide_eq_true c4
    clear c4
    obtain ⟨c5,H⟩:=yi H
    have c5b0:=decide_eq_true c5
    clear c5
    obtain ⟨t255,A6,H⟩:=yo H
    by_cases c7:t255=true
    ·subst c7
     replace H:=yt H
     by_cases c8:x9_1 > 0
     ·rw [if_pos c8] at H
      have c8b0:decide (0 < x9_1)=true:=decide_eq_true c8
      clear c8
      generalize hji9:(wrap64 (x9_1 - 1))=ji9 at H
      (try rw [hji9] at A6)
      have hji9w:(IntKind.i64.wrap (x9_1 - 1))=ji9:=(i64_w _).trans hji9
      obtain ⟨c10,H⟩:=yi H
      have c10b0:=decide_eq_true c10
      clear c10
      obtain ⟨c11,H⟩:=yi H
      have c11b0:=decide_eq_true c11
      clear c11
      by_cases c12:(rd l0 x9_1)≤(rd l0 (ji9))
      ·rw [if_pos c12] at H
       have c12b0:=decide_eq_true c12
       clear c12
       obtain rfl:=Option.some.inj H
       have p254:0≤(x9_1:Int):=od D0
       have q254:x9_1 < (l0.length:Int):=od D0
       obtain ⟨ad254,e254,hx254_0⟩:=Kd.at_int HR0.out x9_1 p254 q254
       cases e254
       replace p254:=eq_true p254
       replace q254:=eq_true q254
       go_wp2_with (first|(refine gC 137 ?_;refine gM (some 17) Try.func137 (args:=#[.int .i64 (rd l0 x9_1), .int .i64 0, .int .i64 (wrap64 (a1 - 1))]) (impl_within.calls (rd l0 x9_1) 0 (wrap64 (a1 - 1)) true _ A6.out) ?_;rintro e w' ⟨rfl,⟨nd,rfl⟩⟩;refine ⟨_,rfl,?_⟩;have p256:0≤((ji9):Int):=od D0;have q256:(ji9) < (l0.length:Int):=od D0;obtain ⟨ad256,e256,hx256_0⟩:=Kd.at_int HR0.out (ji9) p256 q256;obtain rfl:ad254=ad256:=(by injection e256);replace p256:=eq_true p256;replace q256:=eq_true q256))
       go_ret
       exact ⟨by first|rfl|(simp;done)|(simp only [← hji9] <;> (first|rfl|simp))|(simp [*];done),D5⟩
      rw [if_neg c12] at H
      have c12b0:=decide_eq_false c12
      clear c12
      have H':=am H
      clear H
      have p254:0≤(x9_1:Int):=od D0
      have q254:x9_1 < (l0.length:Int):=od D0
      obtain ⟨ad254,e254,hx254_0⟩:=Kd.at_int HR0.out x9_1 p254 q254
      cases e254
      replace p254:=eq_true p254
      replace q254:=eq_true q254
      go_wp2_with (first|(refine gC 137 ?_;refine gM (some 17) Try.func137 (args:=#[.int .i64 (rd l0 x9_1), .int .i64 0, .int .i64 (wrap64 (a1 - 1))]) (impl_within.calls (rd l0 x9_1) 0 (wrap64 (a1 - 1)) true _ A6.out) ?_;rintro e w' ⟨rfl,⟨nd,rfl⟩⟩;refine ⟨_,rfl,?_⟩;have p256:0≤((ji9):Int):=od D0;have q256:(ji9) < (l0.length:Int):=od D0;obtain ⟨ad256,e256,hx256_0⟩:=Kd.at_int HR0.out (ji9) p256 q256;obtain rfl:ad254=ad256:=(by injection e256);replace p256:=eq_true p256;replace q256:=eq_true q256))
      go_roundg k1
      case measure=>have:=HK1.out;omega
      case rel=>exact ⟨(wrap64 (x9_1+1)),D1,H',⟨D17⟩,D5⟩
     rw [if_neg c8] at H
     have c8b0:decide (0 < x9_1)=false:=decide_eq_false c8
     clear c8
     have H':=am H
     clear H
     have p254:0≤(x9_1:Int):=od D0
     have q254:x9_1 < (l0.length:Int):=od D0
     obtain ⟨ad254,e254,hx254_0⟩:=Kd.at_int HR0.out x9_1 p254 q254
     cases e254
     replace p254:=eq_true p254
     replace q254:=eq_true q254
     go_wp2_with (first|(refine gC 137 ?_;refine gM (some 17) Try.func137 (args:=#[.int .i64 (rd l0 x9_1), .int .i64 0, .int .i64 (wrap64 (a1 - 1))]) (impl_within.calls (rd l0 x9_1) 0 (wrap64 (a1 - 1)) true _ A6.out) ?_;rintro e w' ⟨rfl,⟨nd,rfl⟩⟩;refine ⟨_,rfl,?_⟩))
     go_roundg k1
     case measure=>have:=HK1.out;omega
     case rel=>exact ⟨(wrap64 (x9_1+1)),D1,H',⟨D17⟩,D5⟩
    replace c7:=Bool.eq_false_iff.mpr c7
    subst c7
    replace H:=yn H
    obtain rfl:=Option.some.inj H
    have p254:0≤(x9_1:Int):=od D0
    have q254:x9_1 < (l0.length:Int):=od D0
    obtain ⟨ad254,e254,hx254_0⟩:=Kd.at_int HR0.out x9_1 p254 q254
    cases e254
    replace p254:=eq_true p254
    replace q254:=eq_true q254
    go_wp2_with (first|(refine gC 137 ?_;refine gM (some 17) Try.func137 (args:=#[.int .i64 (rd l0 x9_1), .int .i64 0, .int .i64 (wrap64 (a1 - 1))]) (impl_within.calls (rd l0 x9_1) 0 (wrap64 (a1 - 1)) false _ A6.out) ?_;rintro e w' ⟨rfl,⟨nd,rfl⟩⟩;refine ⟨_,rfl,?_⟩))
    go_ret
    exact ⟨D1,D5⟩
   rw [if_neg c3] at H
   have c3b0:=decide_eq_false c3
   clear c3
   obtain rfl:=Option.some.inj H
   go_wp2
   go_ret
   exact ⟨D1,D5⟩

end Go.Proofs.Ytajikfnpcobnpaa.PFnExactMendStripe
-- SHRUNK
-- HALVED
-- SQUEEZED
-- SQUEEZED2
-- SQUEEZED3
-- SQUEEZED4
-- SQUEEZED5
-- SQUEEZED6
