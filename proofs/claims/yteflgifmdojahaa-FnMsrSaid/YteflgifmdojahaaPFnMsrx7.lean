import Derived.Test.YteflgifmdojahaaVFnMsrB
import Derived.Test.YteflgifmdojahaaPFnMsrx0
import Derived.Test.YteflgifmdojahaaPFnMsrx1
import Derived.Test.YteflgifmdojahaaPFnMsrx5
import Derived.Test.YteflgifmdojahaaPFnMsrx6
namespace Go.Proofs.Yteflgifmdojahaa.PFnMsr
open Go.RowKit Go.Proofs.YteflgifmdojahaaW.PrintWords Go.Proofs.YteflgifmdojahaaW.PrintLast Go.Proofs.YteflgifmdojahaaW.PrintMore Go.Proofs.Yteflgifmdojahaa.KitS
attribute [local go_sem] max2_int min2_int max_two min_two max_three min_three max_four min_four
set_option linter.unusedVariables false
set_option maxHeartbeats 8000000
set_option maxRecDepth 100000
set_option linter.unusedSimpArgs false
mutual
def spec_DecodeMsr.j0:Nat→List (S76)→Bool→Int→Int→Option (List Int × Bool)
 | 0,_,_,_,_=>none
 | k+1,x1,x21,x518000,x518001=>if x21=true then (some (([]:List Int),false)) else (spec_DecodeMsr.l0 k x1 ([]:List Int) x1 (x1.length:Int) 0 x518000 x518001 ([]:List (List Int)))
def spec_DecodeMsr.l0:Nat→List (S76)→List Int→List (S76)→Int→Int→Int→Int→List (List Int)→Option (List Int × Bool)
 | 0,_,_,_,_,_,_,_,_=>none
 | k+1,x1,x7,x23,x24,x25,x518000,x518001,x520000=>if x25 < x24 then (if 0≤x25 then (if x25 < (x23.length:Int) then ((spec_l5Piece.f x518000 x518001 ((rd_T76 x23 x25).f0) ((rd_T76 x23 x25).f1)).bind fun t522=>(if t522=true then (if x25 > 0 then (if 0≤(wrap64 (x25 - 1)) then (if (wrap64 (x25 - 1)) < (x1.length:Int) then (spec_DecodeMsr.j2 k x1 x7 x25 x23 x24 x25 (decide (((rd_T76 x1 (wrap64 (x25 - 1))).f0) ≥ ((rd_T76 x23 x25).f0))) x518000 x518001 x520000 ((rd_T76 x23 x25).f0) ((rd_T76 x23 x25).f1)) else (none)) else (none)) else (spec_DecodeMsr.j2 k x1 x7 x25 x23 x24 x25 false x518000 x518001 x520000 ((rd_T76 x23 x25).f0) ((rd_T76 x23 x25).f1))) else (spec_DecodeMsr.j2 k x1 x7 x25 x23 x24 x25 true x518000 x518001 x520000 ((rd_T76 x23 x25).f0) ((rd_T76 x23 x25).f1)))) else (none)) else (none)) else ((spec_l2Inverse.f x520000).bind fun bt533=>(if bt533.2=true then ((spec_l2Apply.f k bt533.1 x7).bind fun t538=>(some (t538,true))) else (some (([]:List Int),false))))
def spec_DecodeMsr.j2:Nat→List (S76)→List Int→Int→List (S76)→Int→Int→Bool→Int→Int→List (List Int)→Int→List Int→Option (List Int × Bool)
 | 0,_,_,_,_,_,_,_,_,_,_,_,_=>none
 | k+1,x1,x7,x8,x23,x24,x25,x48,x518000,x518001,x520000,x522000,x522001=>if x48=true then (some (([]:List Int),false)) else (if x8 < x518001 then ((spec_l5Unknowns.f k x518000 x518001 x522000).bind fun t524=>(if x520000.length+t524.length < 5864062014805 then (if x7.length+x522001.length < 140737488355328 then (spec_DecodeMsr.l0 k x1 (x7 ++ x522001) x23 x24 (wrap64 (x25+1)) x518000 x518001 (x520000 ++ t524)) else (none)) else (none))) else (spec_DecodeMsr.l0 k x1 x7 x23 x24 (wrap64 (x25+1)) x518000 x518001 x520000))
end
def spec_DecodeMsr.f (k:Nat) (a0_0:Int) (a0_1:Int) (l1:List (S76)):Option (List Int × Bool):=(spec_GoodMsr.f a0_0 a0_1).bind fun t518=>(if t518=true then (spec_DecodeMsr.j0 k l1 (decide ((l1.length:Int) < a0_1)) a0_0 a0_1) else (spec_DecodeMsr.j0 k l1 true a0_0 a0_1))
theorem spec_DecodeMsr.mono_l:∀ k,(∀ y0 y1 y2 y3,LeO (spec_DecodeMsr.j0 k y0 y1 y2 y3) (spec_DecodeMsr.j0 (k+1) y0 y1 y2 y3))∧(∀ y0 y1 y2 y3 y4 y5 y6 y7,LeO (spec_DecodeMsr.l0 k y0 y1 y2 y3 y4 y5 y6 y7) (spec_DecodeMsr.l0 (k+1) y0 y1 y2 y3 y4 y5 y6 y7))∧(∀ y0 y1 y2 y3 y4 y5 y6 y7 y8 y9 y10 y11,LeO (spec_DecodeMsr.j2 k y0 y1 y2 y3 y4 y5 y6 y7 y8 y9 y10 y11) (spec_DecodeMsr.j2 (k+1) y0 y1 y2 y3 y4 y5 y6 y7 y8 y9 y10 y11))
 | 0=>⟨fun _ _ _ _ r h=>by simp [spec_DecodeMsr.j0] at h,fun _ _ _ _ _ _ _ _ r h=>by simp [spec_DecodeMsr.l0] at h,fun _ _ _ _ _ _ _ _ _ _ _ _ r h=>by simp [spec_DecodeMsr.j2] at h⟩
 | k+1=>by
  obtain ⟨ih0,ih1,ih2⟩:=spec_DecodeMsr.mono_l k
  refine ⟨?_,?_,?_⟩
  ·intro y0 y1 y2 y3
   unfold spec_DecodeMsr.j0
   exact mm
  ·intro y0 y1 y2 y3 y4 y5 y6 y7
   unfold spec_DecodeMsr.l0
   exact mm
  intro y0 y1 y2 y3 y4 y5 y6 y7 y8 y9 y10 y11
  unfold spec_DecodeMsr.j2
  exact mm
theorem spec_DecodeMsr.mono:∀ a0 a1 a2 k,LeO (spec_DecodeMsr.f k a0 a1 a2) (spec_DecodeMsr.f (k+1) a0 a1 a2):=by
 intro a0 a1 a2 k
 obtain ⟨ih0,ih1,ih2⟩:=spec_DecodeMsr.mono_l k
 unfold spec_DecodeMsr.f
 exact mm
def spec_DecodeMsr.T8:Bool × List (List Nat × List Nat):=(true,[([],[]),([],[]),([0,1],[0,1]),([2],[2]),([3,2],[3]),([4],[4]),([5,4],[4,5]),([6,4,4],[4,6]),([7],[7]),([7],[7]),([9,7],[7,9]),([8,10,7],[7,8,10]),([11,7],[7,11]),([12,7],[7,12]),([7],[7]),([14,7],[7,14]),([13,15,7],[7,13,15]),([7,16,4],[4,7,16]),([4,17],[4,17])])
def spec_DecodeMsr.B8:List Nat:=[0,0,3,7,15,31,63,127,255,255,767,2047,4095,8191,255,16639,65535,131071,262143]
theorem spec_DecodeMsr.tab8:rtab .any (opsOf Try.f53 8)=spec_DecodeMsr.T8:=by kernel_rfl
theorem spec_DecodeMsr.bits8:waitsOk spec_DecodeMsr.T8.2 spec_DecodeMsr.B8=true:=by kernel_rfl
def spec_DecodeMsr.T11:Bool × List (List Nat × List Nat):=(true,[([],[]),([0],[0]),([],[]),([],[]),([3],[3]),([2,4],[2,4]),([1,5,5],[1,5]),([0,1,2,3,4,5,6],[]),([7,6,6,0,1,2,3,4,5,6],[6,7])])
def spec_DecodeMsr.B11:List Nat:=[0,1,0,0,8,28,63,127,255]
theorem spec_DecodeMsr.tab11:rtab .any (opsOf Try.f53 11)=spec_DecodeMsr.T11:=by kernel_rfl
theorem spec_DecodeMsr.bits11:waitsOk spec_DecodeMsr.T11.2 spec_DecodeMsr.B11=true:=by kernel_rfl
theorem spec_DecodeMsr.calls (k:Nat) (a0_0:Int) (a0_1:Int) (A1:Option Addr) (c1:Nat) (l1:List (S76)) (r1:List Int) (r2:Bool) (w:World) (hr1:Kd.C k76 w A1 l1.length l1) (hc1:l1.length≤c1) (h:spec_DecodeMsr.f k a0_0 a0_1 l1=some (r1,r2)) :
  Calls Try.prog 53 #[.agg #[.int .i64 a0_0, .int .i64 a0_1], .slice A1 l1.length c1] w fun e w'=>∃ v0_:Value,e = .returned (.tuple #[v0_, .bool r2])∧Kd.R (Kd.int .u8) 5 w' w.heap.size (fun _=>True) v0_ r1∧Below w.heap.size w w':=by
 have hu30:=Try.underlying30
 have hu27:=Try.underlying27
 have hu76:=Try.underlying76
 have HR1:=am hr1
 have HC1:=am hc1
 clear hr1 hc1
 have HB:=am (Below.refl w.heap.size w)
 have H:=h
 unfold spec_DecodeMsr.f at H
 clear h
 have HC3:=am H
 clear H
 go_enter Try.func53,Try.ntmps53
 go_upto_region 1 with (first|((with_reducible refine gD 2 ?_);(try (refine gate_guard D15 ?_;dsimp only));refine gB (cs:=#[.int .i64 a0_0, .int .i64 a0_1]) 30 ?_;intro gb517 hg w4 hbox hb;have BK517:=am (hbox);have GW517:=ye HB hg;replace HB:=yH HB hb;have GE517:=GW517;clear hb hbox hg))
 (try simp only [Act.put,q1,q2,q3])
 go_cut [21] (fun v21 wc=>∃ (kq:Nat) (x21_2:Bool),v21 = .bool x21_2∧Aside0 (spec_DecodeMsr.j0 kq l1 x21_2 a0_0 a0_1=some (r1,r2))∧Aside0 (kq≤k)∧Aside0 (wc.heap[gb517]? = some (.cells #[.int .i64 a0_0, .int .i64 a0_1] 30 (0,0)))∧Aside0 (Below w.heap.size w wc))
 case first =>
  have H:=HC3.out
  clear HC3
  obtain ⟨t518,A5,H⟩:=yo H
  by_cases c6:t518=true
  ·subst c6
   replace H:=yt H
   have H':=am H
   clear H
   obtain ⟨hcz7_0,hcz7_1,hfz7_0,hfz7_1⟩:=yk2 BK517
   go_wp2_with (first|((with_reducible refine gC 47 ?_);refine gM (some 13) Try.func47 (args:=#[.agg #[.int .i64 a0_0, .int .i64 a0_1]]) (spec_GoodMsr.calls a0_0 a0_1 true _ A5.out) ?_;rintro e w8 ⟨rfl,hb⟩;refine ⟨_,rfl,?_⟩;replace BK517:=yb BK517 hb;replace HB:=yH HB hb;clear hb;obtain ⟨hcz9_0,hcz9_1,hfz9_0,hfz9_1⟩:=yk2 BK517))
   go_meet
   case rel=>exact ⟨_,(decide ((l1.length:Int) < a0_1)),D1,H',⟨D54⟩,⟨yB BK517⟩,⟨yW HB⟩⟩
  replace c6:=Bool.eq_false_iff.mpr c6
  subst c6
  replace H:=yn H
  have H':=am H
  clear H
  obtain ⟨hcz10_0,hcz10_1,hfz10_0,hfz10_1⟩:=yk2 BK517
  go_wp2_with (first|((with_reducible refine gC 47 ?_);refine gM (some 13) Try.func47 (args:=#[.agg #[.int .i64 a0_0, .int .i64 a0_1]]) (spec_GoodMsr.calls a0_0 a0_1 false _ A5.out) ?_;rintro e w11 ⟨rfl,hb⟩;refine ⟨_,rfl,?_⟩;replace BK517:=yb BK517 hb;replace HB:=yH HB hb;clear hb))
  go_meet
  case rel=>exact ⟨_,(true),D1,H',⟨D54⟩,⟨yB BK517⟩,⟨yW HB⟩⟩
 case rest =>
  clear HC3
  try clear c1
  try clear p2
  try clear c4
  try clear c5
  try clear c6
  try clear hcz10_0
  try clear hcz10_1
  try clear hcz7_0
  try clear hcz7_1
  try clear hcz9_0
  try clear hcz9_1
  try clear hfz10_0
  try clear hfz10_1
  try clear hfz7_0
  try clear hfz7_1
  try clear hfz9_0
  try clear hfz9_1
  obtain ⟨kq,x21_2,rfl,HA,HJ2,BK517,HB⟩:=hcut
  cases kq with
  | zero=>exact absurd HA.out (by simp [spec_DecodeMsr.j0])
  | succ kj2 =>
   have H:=HA.out
   clear HA
   simp only [spec_DecodeMsr.j0] at H
   by_cases c12:x21_2=true
   ·subst c12
    replace H:=yt H
    simp only [Option.some.injEq,Prod.mk.injEq] at H
    obtain ⟨rfl,rfl⟩:=H
    go_wp2
    go_ret2
    exact ⟨_,D2,D14,yW HB⟩
   replace c12:=Bool.eq_false_iff.mpr c12
   subst c12
   replace H:=yn H
   have H':=am H
   clear H
   go_wp2_with (first|((with_reducible refine gD 6 ?_);(try (refine gate_guard D15 ?_;dsimp only));refine gB (cs:=#[.slice none 0 0]) 27 ?_;intro gb519 hg w13 hbox hb;have BK519:=am (hbox);have GW519:=ye HB hg;replace HB:=yH HB hb;have NB517_519:=yl BK517 hg;have NB519_517:=yg BK517 hg;replace BK517:=yb BK517 hb;have GE519:=GW519;clear hb hbox hg;have hnb14:=NB519_517.out;have hnc14:=NB517_519.out;obtain ⟨hcz15_0,hfz15_0⟩:=yk1 BK519))
   go_loopg [7,25] kj2 (fun kq v7 v25 w'=>∃ (x7_2:List Int) (x25_2:Int) (x520000_2:List (List Int)) (u520000:Value),v25 = .int .i64 x25_2∧Aside0 (spec_DecodeMsr.l0 kq l1 x7_2 l1 (l1.length:Int) x25_2 a0_0 a0_1 x520000_2=some (r1,r2))∧Aside0 (kq≤kj2)∧Aside0 (Kd.R (Kd.int .u8) 5 w' w.heap.size (fun _=>True) v7 x7_2)∧Aside0 (Kd.N (Kd.slice 5 (Kd.int .u8)) 24 w' w.heap.size (fun k_=>some k_ ≠ (v7:Value).ownBlock∧k_ ≠ gb517∧k_ ≠ gb519) u520000 x520000_2)∧Aside0 (w'.heap[gb517]? = some (.cells #[.int .i64 a0_0, .int .i64 a0_1] 30 (0,0)))∧Aside0 (w'.heap[gb519]? = some (.cells #[u520000] 27 (0,0)))∧Aside0 (Below w.heap.size w w'))
   case atStart=>exact ⟨(([]:List Int)),(0),(([]:List (List Int))),(.slice none 0 0),D1,H',⟨Nat.le_refl _⟩,⟨D14⟩,⟨D18⟩,⟨yF BK517⟩,⟨by refine sB ?_;refine blk_put (cs:=#[.slice none 0 0]) ?_ 0 _ rfl;exact yB BK519⟩,⟨yW HB⟩⟩
   case round =>
    clear H'
    try clear c1
    try clear p2
    try clear c4
    try clear c5
    try clear c6
    try clear c12
    try clear c14
    try clear hcz10_0
    try clear hcz10_1
    try clear hcz15_0
    try clear hcz7_0
    try clear hcz7_1
    try clear hcz9_0
    try clear hcz9_1
    try clear hfz10_0
    try clear hfz10_1
    try clear hfz15_0
    try clear hfz7_0
    try clear hfz7_1
    try clear hfz9_0
    try clear hfz9_1
    try clear p2
    obtain ⟨x7_2,x25_2,x520000_2,u520000,rfl,HA,HK2,HO_7,HO_520000,BK517,BK519,HB⟩:=hrel
    cases gk with
    | zero=>exact absurd HA.out (by simp [spec_DecodeMsr.l0])
    | succ k2 =>
     have H:=HA.out
     clear HA
     simp only [spec_DecodeMsr.l0] at H
     by_cases c16:x25_2 < (l1.length:Int)
     ·rw [if_pos c16] at H
      have c16b0:=decide_eq_true c16
      clear c16
      obtain ⟨c17,H⟩:=yi H
      have c17b0:=decide_eq_true c17
      clear c17
      obtain ⟨c18,H⟩:=yi H
      have c18b0:=decide_eq_true c18
      clear c18
      have HC19:=am H
      clear H
      have p520:0≤(x25_2:Int):=od D0
      have q520:x25_2 < (l1.length:Int):=od D0
      obtain ⟨ad520,A520_1,c520_1,e520,hx520_0,hx520_1,hl520_1,hi520_1⟩:=at_T76 HR1.out x25_2 p520 q520
      cases e520
      replace hx520_0:=(HB.out.cell (World.block_lt_of_cell? w _ hx520_0)).trans hx520_0
      replace hx520_1:=(HB.out.cell (World.block_lt_of_cell? w _ hx520_1)).trans hx520_1
      have HR520_1:=am hi520_1
      have HC520_1:=am hl520_1
      clear hi520_1 hl520_1
      replace p520:=eq_true p520
      replace q520:=eq_true q520
      go_upto_region 8 with (first|((with_reducible refine gD 9 ?_);(try (refine gate_guard D15 ?_;dsimp only));refine gB (cs:=#[.int .i64 0, .slice none 0 0]) 76 ?_;intro gb521 hg w20 hbox hb;replace HO_7:=bR HO_7 hb;replace HO_520000:=oN HO_520000 hg hb;have BK521:=am (hbox);have GW521:=ye HB hg;replace HB:=yH HB hb;have NB517_521:=yl BK517 hg;have NB521_517:=yg BK517 hg;replace BK517:=yb BK517 hb;have NB519_521:=yl BK519 hg;have NB521_519:=yg BK519 hg;replace BK519:=yb BK519 hb;have GE521:=GW521;clear hb hbox hg;have hnb21:=NB521_517.out;have hnc21:=NB517_521.out;have hnb22:=NB521_519.out;have hnc22:=NB519_521.out;obtain ⟨hcz23_0,hcz23_1,hfz23_0,hfz23_1⟩:=yk2 BK521))
      (try simp only [Act.put,q1,q2,q3])
      go_cut [48] (fun v48 wc=>∃ (kq:Nat) (x48_18:Bool),v48 = .bool x48_18∧Aside0 (spec_DecodeMsr.j2 kq l1 x7_2 x25_2 l1 (l1.length:Int) x25_2 x48_18 a0_0 a0_1 x520000_2 ((rd_T76 l1 x25_2).f0) ((rd_T76 l1 x25_2).f1)=some (r1,r2))∧Aside0 (kq≤k2)∧Aside0 (Kd.R (Kd.int .u8) 5 wc w.heap.size (fun _=>True) u7 x7_2)∧Aside0 (Kd.N (Kd.slice 5 (Kd.int .u8)) 24 wc w.heap.size (fun k_=>some k_ ≠ (u7:Value).ownBlock∧k_ ≠ gb517∧k_ ≠ gb519∧k_ ≠ gb521) u520000 x520000_2)∧Aside0 (wc.heap[gb517]? = some (.cells #[.int .i64 a0_0, .int .i64 a0_1] 30 (0,0)))∧Aside0 (wc.heap[gb519]? = some (.cells #[u520000] 27 (0,0)))∧Aside0 (wc.heap[gb521]? = some (.cells #[.int .i64 ((rd_T76 l1 x25_2).f0),(.slice A520_1 ((rd_T76 l1 x25_2).f1).length c520_1)] 76 (0,0)))∧Aside0 (Below w.heap.size w wc))
      case first =>
       have H:=HC19.out
       clear HC19
       obtain ⟨t522,A24,H⟩:=yo H
       by_cases c25:t522=true
       ·subst c25
        replace H:=yt H
        by_cases c26:x25_2 > 0
        ·rw [if_pos c26] at H
         have c26b0:decide (0 < x25_2)=true:=decide_eq_true c26
         clear c26
         (first|rw [c26b0]|(simp only [i64_w,i32_w];rw [c26b0])|skip)
         generalize hji27:(wrap64 (x25_2 - 1))=ji27 at H
         (try rw [hji27] at A24)
         have hji27w:(IntKind.i64.wrap (x25_2 - 1))=ji27:=(i64_w _).trans hji27
         obtain ⟨c28,H⟩:=yi H
         have c28b0:=decide_eq_true c28
         clear c28
         obtain ⟨c29,H⟩:=yi H
         have c29b0:=decide_eq_true c29
         clear c29
         have H':=am H
         clear H
         try go_wp2
         generalize hw_:((w20.setCell ⟨gb521,0,none⟩ (.int .i64 ((rd_T76 l1 x25_2).f0))).setCell ⟨gb521,1,none⟩ (.slice A520_1 ((rd_T76 l1 x25_2).f1).length c520_1))=w30
         replace HO_7:Aside0 (Kd.R (Kd.int .u8) 5 w30 w.heap.size (fun _=>True) u7 x7_2):=⟨D42⟩
         replace HO_520000:Aside0 (Kd.N (Kd.slice 5 (Kd.int .u8)) 24 w30 w.heap.size (fun k_=>some k_ ≠ (u7:Value).ownBlock∧k_ ≠ gb517∧k_ ≠ gb519∧k_ ≠ gb521) u520000 x520000_2):=⟨D32⟩
         replace BK517:Aside0 (w30.heap[gb517]? = some (.cells #[.int .i64 a0_0, .int .i64 a0_1] 30 (0,0))):=⟨by rw [← hw_];exact yF BK517⟩
         replace BK519:Aside0 (w30.heap[gb519]? = some (.cells #[u520000] 27 (0,0))):=⟨by rw [← hw_];exact yF BK519⟩
         replace BK521:Aside0 (w30.heap[gb521]? = some (.cells #[.int .i64 ((rd_T76 l1 x25_2).f0), .slice A520_1 ((rd_T76 l1 x25_2).f1).length c520_1] 76 (0,0))):=⟨D50⟩
         replace HB:Aside0 (Below w.heap.size w w30):=⟨by rw [← hw_];exact yW HB⟩
         clear hw_
         replace HO_7:=am (Kd.R_drew HO_7.out)
         replace HO_520000:=am (Kd.N_drew HO_520000.out)
         replace BK517:=am (qd BK517.out)
         replace BK519:=am (qd BK519.out)
         replace BK521:=am (qd BK521.out)
         replace HB:=am (pd HB.out)
         have p523:0≤((ji27):Int):=od D0
         have q523:(ji27) < (l1.length:Int):=od D0
         obtain ⟨ad523,A523_1,c523_1,e523,hx523_0,hx523_1,hl523_1,hi523_1⟩:=at_T76 HR1.out (ji27) p523 q523
         have hw523_1:=hx523_1
         have hw523_0:=hx523_0
         obtain rfl:ad520=ad523:=(by injection e523)
         replace hx523_0:=(HB.out.cell (World.block_lt_of_cell? w _ hx523_0)).trans hx523_0
         replace hx523_1:=(HB.out.cell (World.block_lt_of_cell? w _ hx523_1)).trans hx523_1
         have HR523_1:=am hi523_1
         have HC523_1:=am hl523_1
         clear hi523_1 hl523_1
         replace p523:=eq_true p523
         replace q523:=eq_true q523
         refine rS (n:=19) (S:=fun w'=>w'.cell? ⟨gb517,0,none⟩=some (.int .i64 a0_0)∧w'.cell? ⟨gb517,1,none⟩=some (.int .i64 a0_1)∧w'.cell? ⟨gb521,0,none⟩=some (.int .i64 ((rd_T76 l1 x25_2).f0))∧w'.cell? ⟨gb521,1,none⟩=some (.slice A520_1 ((rd_T76 l1 x25_2).f1).length c520_1)∧w'.cell? (ad520.add (((ji27)).toNat*2))=some (.int .i64 ((rd_T76 l1 (ji27)).f0))∧w'.cell? ⟨(ad520.add (((ji27)).toNat*2)).block,(ad520.add (((ji27)).toNat*2)).off+1,none⟩=some (.slice A523_1 ((rd_T76 l1 (ji27)).f1).length c523_1)) (ds:=[]) [(0,30),(1,31),(2,0),(3,33),(4,34),(5,35),(6,36),(7,37),(8,38),(9,39),(10,40),(11,41),(12,42),(14,44),(13,43),(15,45),(16,46),(17,47),(18,48)] D5 rfl spec_DecodeMsr.tab8 spec_DecodeMsr.bits8 ⟨yk BK517 0,yk BK517 1,yk BK521 0,yk BK521 1,((HB.out.cell (World.block_lt_of_cell? w _ hw523_0)).trans hw523_0),((HB.out.cell (World.block_lt_of_cell? w _ hw523_1)).trans hw523_1)⟩ (fun hHeld HT_ HW_=>?_)
         generalize w30.drew=w31 at HO_7 HO_520000 BK517 BK519 BK521 HB HR523_1 hx523_0 hx523_1 hHeld ⊢
         refine rR ?_
         refine rO (N:=some 32) HT_ rfl rfl D5 D8 (fun K hK=>?_)
         refine goes_ Try.func112 D5 rfl #[.agg #[.int .i64 a0_0, .int .i64 a0_1], .agg #[.int .i64 ((rd_T76 l1 x25_2).f0), .slice A520_1 ((rd_T76 l1 x25_2).f1).length c520_1]] D15 rfl rfl D10 ?_
         with_reducible refine (spec_l5Piece.calls a0_0 a0_1 ((rd_T76 l1 x25_2).f0) _ _ ((rd_T76 l1 x25_2).f1) true _ (yc (Kd.C_below HR520_1.out HB.out)) HC520_1.out A24.out).mono ?_
         rintro e w32 ⟨rfl,hb⟩
         refine ⟨_,rfl,?_⟩
         replace HO_7:=bR HO_7 hb
         replace HO_520000:=bN HO_520000 hb
         replace BK517:=yb BK517 hb
         replace BK519:=yb BK519 hb
         replace BK521:=yb BK521 hb
         replace HB:=yH HB hb
         (try clear hb)
         (try clear hb2)
         (try clear hk)
         (try clear hi)
         refine hK.out _ _ ⟨yk BK517 0,yk BK517 1,yk BK521 0,yk BK521 1,((HB.out.cell (World.block_lt_of_cell? w _ hw523_0)).trans hw523_0),((HB.out.cell (World.block_lt_of_cell? w _ hw523_1)).trans hw523_1)⟩ (fun hHeld=>?_)
         clear hK K
         refine rN (nA 32) ?_
         refine rR ?_
         refine rD HT_ D5 ?_
         try go_wp2
         go_meet
         case rel=>exact ⟨_,(decide (((rd_T76 l1 (ji27)).f0) ≥ ((rd_T76 l1 x25_2).f0))),(by first|rfl|(simp;done)|(simp only [← hji27] <;> (first|rfl|simp))|(simp [*];done)),H',⟨D105⟩,⟨yR HO_7⟩,⟨yN HO_520000⟩,⟨yB BK517⟩,⟨yB BK519⟩,⟨yB BK521⟩,⟨yW HB⟩⟩
        rw [if_neg c26] at H
        have c26b0:decide (0 < x25_2)=false:=decide_eq_false c26
        clear c26
        (first|rw [c26b0]|(simp only [i64_w,i32_w];rw [c26b0])|skip)
        have H':=am H
        clear H
        try go_wp2
        generalize hw_:((w20.setCell ⟨gb521,0,none⟩ (.int .i64 ((rd_T76 l1 x25_2).f0))).setCell ⟨gb521,1,none⟩ (.slice A520_1 ((rd_T76 l1 x25_2).f1).length c520_1))=w33
        replace HO_7:Aside0 (Kd.R (Kd.int .u8) 5 w33 w.heap.size (fun _=>True) u7 x7_2):=⟨D42⟩
        replace HO_520000:Aside0 (Kd.N (Kd.slice 5 (Kd.int .u8)) 24 w33 w.heap.size (fun k_=>some k_ ≠ (u7:Value).ownBlock∧k_ ≠ gb517∧k_ ≠ gb519∧k_ ≠ gb521) u520000 x520000_2):=⟨D32⟩
        replace BK517:Aside0 (w33.heap[gb517]? = some (.cells #[.int .i64 a0_0, .int .i64 a0_1] 30 (0,0))):=⟨by rw [← hw_];exact yF BK517⟩
        replace BK519:Aside0 (w33.heap[gb519]? = some (.cells #[u520000] 27 (0,0))):=⟨by rw [← hw_];exact yF BK519⟩
        replace BK521:Aside0 (w33.heap[gb521]? = some (.cells #[.int .i64 ((rd_T76 l1 x25_2).f0), .slice A520_1 ((rd_T76 l1 x25_2).f1).length c520_1] 76 (0,0))):=⟨D50⟩
        replace HB:Aside0 (Below w.heap.size w w33):=⟨by rw [← hw_];exact yW HB⟩
        clear hw_
        replace HO_7:=am (Kd.R_drew HO_7.out)
        replace HO_520000:=am (Kd.N_drew HO_520000.out)
        replace BK517:=am (qd BK517.out)
        replace BK519:=am (qd BK519.out)
        replace BK521:=am (qd BK521.out)
        replace HB:=am (pd HB.out)
        refine rS (n:=19) (S:=fun w'=>w'.cell? ⟨gb517,0,none⟩=some (.int .i64 a0_0)∧w'.cell? ⟨gb517,1,none⟩=some (.int .i64 a0_1)∧w'.cell? ⟨gb521,0,none⟩=some (.int .i64 ((rd_T76 l1 x25_2).f0))∧w'.cell? ⟨gb521,1,none⟩=some (.slice A520_1 ((rd_T76 l1 x25_2).f1).length c520_1)) (ds:=[]) [(0,30),(1,31),(2,0),(3,33),(4,34),(5,35),(6,36),(7,37),(8,38),(9,39),(10,40),(11,41),(12,42),(13,43),(14,44),(15,45),(16,46),(17,47),(18,48)] D5 rfl spec_DecodeMsr.tab8 spec_DecodeMsr.bits8 ⟨yk BK517 0,yk BK517 1,yk BK521 0,yk BK521 1⟩ (fun hHeld HT_ HW_=>?_)
        generalize w33.drew=w34 at HO_7 HO_520000 BK517 BK519 BK521 HB hHeld ⊢
        refine rR ?_
        refine rO (N:=some 32) HT_ rfl rfl D5 D8 (fun K hK=>?_)
        refine goes_ Try.func112 D5 rfl #[.agg #[.int .i64 a0_0, .int .i64 a0_1], .agg #[.int .i64 ((rd_T76 l1 x25_2).f0), .slice A520_1 ((rd_T76 l1 x25_2).f1).length c520_1]] D15 rfl rfl D10 ?_
        with_reducible refine (spec_l5Piece.calls a0_0 a0_1 ((rd_T76 l1 x25_2).f0) _ _ ((rd_T76 l1 x25_2).f1) true _ (yc (Kd.C_below HR520_1.out HB.out)) HC520_1.out A24.out).mono ?_
        rintro e w35 ⟨rfl,hb⟩
        refine ⟨_,rfl,?_⟩
        replace HO_7:=bR HO_7 hb
        replace HO_520000:=bN HO_520000 hb
        replace BK517:=yb BK517 hb
        replace BK519:=yb BK519 hb
        replace BK521:=yb BK521 hb
        replace HB:=yH HB hb
        (try clear hb)
        (try clear hb2)
        (try clear hk)
        (try clear hi)
        refine hK.out _ _ ⟨yk BK517 0,yk BK517 1,yk BK521 0,yk BK521 1⟩ (fun hHeld=>?_)
        clear hK K
        refine rN (nA 32) ?_
        refine rR ?_
        refine rD HT_ D5 ?_
        try go_wp2
        go_meet
        case rel=>exact ⟨_,(false),D1,H',⟨D105⟩,⟨yR HO_7⟩,⟨yN HO_520000⟩,⟨yB BK517⟩,⟨yB BK519⟩,⟨yB BK521⟩,⟨yW HB⟩⟩
       replace c25:=Bool.eq_false_iff.mpr c25
       subst c25
       replace H:=yn H
       have H':=am H
       clear H
       try go_wp2
       generalize hw_:((w20.setCell ⟨gb521,0,none⟩ (.int .i64 ((rd_T76 l1 x25_2).f0))).setCell ⟨gb521,1,none⟩ (.slice A520_1 ((rd_T76 l1 x25_2).f1).length c520_1))=w36
       replace HO_7:Aside0 (Kd.R (Kd.int .u8) 5 w36 w.heap.size (fun _=>True) u7 x7_2):=⟨D42⟩
       replace HO_520000:Aside0 (Kd.N (Kd.slice 5 (Kd.int .u8)) 24 w36 w.heap.size (fun k_=>some k_ ≠ (u7:Value).ownBlock∧k_ ≠ gb517∧k_ ≠ gb519∧k_ ≠ gb521) u520000 x520000_2):=⟨D32⟩
       replace BK517:Aside0 (w36.heap[gb517]? = some (.cells #[.int .i64 a0_0, .int .i64 a0_1] 30 (0,0))):=⟨by rw [← hw_];exact yF BK517⟩
       replace BK519:Aside0 (w36.heap[gb519]? = some (.cells #[u520000] 27 (0,0))):=⟨by rw [← hw_];exact yF BK519⟩
       replace BK521:Aside0 (w36.heap[gb521]? = some (.cells #[.int .i64 ((rd_T76 l1 x25_2).f0), .slice A520_1 ((rd_T76 l1 x25_2).f1).length c520_1] 76 (0,0))):=⟨D50⟩
       replace HB:Aside0 (Below w.heap.size w w36):=⟨by rw [← hw_];exact yW HB⟩
       clear hw_
       replace HO_7:=am (Kd.R_drew HO_7.out)
       replace HO_520000:=am (Kd.N_drew HO_520000.out)
       replace BK517:=am (qd BK517.out)
       replace BK519:=am (qd BK519.out)
       replace BK521:=am (qd BK521.out)
       replace HB:=am (pd HB.out)
       refine rS (n:=19) (S:=fun w'=>w'.cell? ⟨gb517,0,none⟩=some (.int .i64 a0_0)∧w'.cell? ⟨gb517,1,none⟩=some (.int .i64 a0_1)∧w'.cell? ⟨gb521,0,none⟩=some (.int .i64 ((rd_T76 l1 x25_2).f0))∧w'.cell? ⟨gb521,1,none⟩=some (.slice A520_1 ((rd_T76 l1 x25_2).f1).length c520_1)) (ds:=[]) [(0,30),(1,31),(2,0),(3,33),(4,34),(5,35),(6,36),(7,37),(8,38),(9,39),(10,40),(11,41),(12,42),(13,43),(14,44),(15,45),(16,46),(17,47),(18,48)] D5 rfl spec_DecodeMsr.tab8 spec_DecodeMsr.bits8 ⟨yk BK517 0,yk BK517 1,yk BK521 0,yk BK521 1⟩ (fun hHeld HT_ HW_=>?_)
       generalize w36.drew=w37 at HO_7 HO_520000 BK517 BK519 BK521 HB hHeld ⊢
       refine rR ?_
       refine rO (N:=some 32) HT_ rfl rfl D5 D8 (fun K hK=>?_)
       refine goes_ Try.func112 D5 rfl #[.agg #[.int .i64 a0_0, .int .i64 a0_1], .agg #[.int .i64 ((rd_T76 l1 x25_2).f0), .slice A520_1 ((rd_T76 l1 x25_2).f1).length c520_1]] D15 rfl rfl D10 ?_
       with_reducible refine (spec_l5Piece.calls a0_0 a0_1 ((rd_T76 l1 x25_2).f0) _ _ ((rd_T76 l1 x25_2).f1) false _ (yc (Kd.C_below HR520_1.out HB.out)) HC520_1.out A24.out).mono ?_
       rintro e w38 ⟨rfl,hb⟩
       refine ⟨_,rfl,?_⟩
       replace HO_7:=bR HO_7 hb
       replace HO_520000:=bN HO_520000 hb
       replace BK517:=yb BK517 hb
       replace BK519:=yb BK519 hb
       replace BK521:=yb BK521 hb
       replace HB:=yH HB hb
       (try clear hb)
       (try clear hb2)
       (try clear hk)
       (try clear hi)
       refine hK.out _ _ ⟨yk BK517 0,yk BK517 1,yk BK521 0,yk BK521 1⟩ (fun hHeld=>?_)
       clear hK K
       refine rN (nA 32) ?_
       refine rR ?_
       refine rD HT_ D5 ?_
       try go_wp2
       go_meet
       case rel=>exact ⟨_,(true),D1,H',⟨D105⟩,⟨yR HO_7⟩,⟨yN HO_520000⟩,⟨yB BK517⟩,⟨yB BK519⟩,⟨yB BK521⟩,⟨yW HB⟩⟩
      case rest =>
       clear HC19
       try clear c1
       try clear c2
       try clear p2
       try clear c5
       try clear p5
       try clear q5
       try clear hx5
       try clear c11
       try clear c25
       try clear c26
       try clear c26b0
       try clear c28
       try clear c29
       try clear hx523_0
       try clear hx523_1
       try clear p523
       try clear q523
       obtain ⟨kq,x48_18,rfl,HA,HJ18,HO_7,HO_520000,BK517,BK519,BK521,HB⟩:=hcut
       cases kq with
       | zero=>exact absurd HA.out (by simp [spec_DecodeMsr.j2])
       | succ kj18 =>
        have H:=HA.out
        clear HA
        simp only [spec_DecodeMsr.j2] at H
        by_cases c39:x48_18=true
        ·subst c39
         replace H:=yt H
         simp only [Option.some.injEq,Prod.mk.injEq] at H
         obtain ⟨rfl,rfl⟩:=H
         go_wp2
         go_ret2
         exact ⟨_,D2,D14,yW HB⟩
        replace c39:=Bool.eq_false_iff.mpr c39
        subst c39
        replace H:=yn H
        by_cases c40:x25_2 < a0_1
        ·rw [if_pos c40] at H
         have c40b0:=decide_eq_true c40
         clear c40
         obtain ⟨t524,A41,H⟩:=yo H
         obtain ⟨c42,H⟩:=yi H
         have LMc42:=am c42
         clear c42
         generalize hy527:(x520000_2 ++ t524:List (List Int))=y527 at H
         have Ny527:=am hy527.symm
         clear hy527
         obtain ⟨c43,H⟩:=yi H
         have LMc43:=am c43
         clear c43
         generalize hy530:(x7_2 ++ ((rd_T76 l1 x25_2).f1):List Int)=y530 at H
         have Ny530:=am hy530.symm
         clear hy530
         have H':=am H
         clear H
         have hnb44:=NB517_519.out
         have hnc44:=NB519_517.out
         have hnb45:=NB517_521.out
         have hnc45:=NB521_517.out
         obtain ⟨hcz46_0,hcz46_1,hfz46_0,hfz46_1⟩:=yk2 BK517
         try go_wp2
         replace HO_7:=am (Kd.R_drew HO_7.out)
         replace HO_520000:=am (Kd.N_drew HO_520000.out)
         replace BK517:=am (qd BK517.out)
         replace BK519:=am (qd BK519.out)
         replace BK521:=am (qd BK521.out)
         replace HB:=am (pd HB.out)
         refine rS (n:=9) (S:=fun w'=>w'.cell? ⟨gb519,0,none⟩=some (u520000)∧w'.cell? ⟨gb517,0,none⟩=some (.int .i64 a0_0)∧w'.cell? ⟨gb517,1,none⟩=some (.int .i64 a0_1)∧w'.cell? ⟨gb521,0,none⟩=some (.int .i64 ((rd_T76 l1 x25_2).f0))∧w'.cell? ⟨gb521,1,none⟩=some (.slice A520_1 ((rd_T76 l1 x25_2).f1).length c520_1)) (ds:=[8]) [(0,53),(3,56),(1,54),(2,55),(4,57),(5,0),(6,0),(7,60),(8,0)] D5 rfl spec_DecodeMsr.tab11 spec_DecodeMsr.bits11 ⟨yk BK519 0,yk BK517 0,yk BK517 1,yk BK521 0,yk BK521 1⟩ (fun hHeld HT_ HW_=>?_)
         generalize wc.drew=w47 at HO_7 HO_520000 BK517 BK519 BK521 HB hHeld ⊢
         refine rR ?_
         refine rO (N:=some 58) HT_ rfl rfl D5 D8 (fun K hK=>?_)
         refine goes_ Try.func113 D5 rfl #[.agg #[.int .i64 a0_0, .int .i64 a0_1], .int .i64 ((rd_T76 l1 x25_2).f0)] D15 rfl rfl D10 ?_
         with_reducible refine (spec_l5Unknowns.calls kj18 a0_0 a0_1 ((rd_T76 l1 x25_2).f0) t524 _ A41.out).mono ?_
         rintro e w48 ⟨v525,rfl,ho0,hb⟩
         refine ⟨_,rfl,?_⟩
         have HO526:=am (Kd.N_lower (Kd.N_mono (ok':=fun k_=>some k_ ≠ (u7:Value).ownBlock∧some k_ ≠ (u520000:Value).ownBlock∧k_ ≠ gb517∧k_ ≠ gb519∧k_ ≠ gb521) (Kd.S_N (Kd.S_bound ho0)) (fun k_ hk_=>⟨(Kd.fresh' (Kd.R_lt (yR HO_7)) k_ hk_.2.1),(Kd.fresh' (Kd.N_lt (yN HO_520000)) k_ hk_.2.1),(yz BK517 k_ hk_.2.1),(yz BK519 k_ hk_.2.1),(yz BK521 k_ hk_.2.1)⟩)) (pz (yW HB)))
         replace HO_7:=bR HO_7 hb
         replace HO_520000:=eN HO_520000 D26 hb
         replace BK517:=yb BK517 hb
         replace BK519:=yb BK519 hb
         replace BK521:=yb BK521 hb
         replace HB:=yH HB hb
         (try clear hb)
         (try clear hb2)
         (try clear hk)
         (try clear hi)
         (try clear ho0)
         obtain ⟨Ao50,co50,eo50⟩:=Kd.N_slice HO526.out
         (first|subst eo50|(injection eo50 with f1_ f2_ f3_;have f4_:=f1_.symm;have f5_:=f3_.symm;clear f1_ f2_ f3_;subst f4_;subst f5_))
         refine hK.out _ _ ⟨yk BK519 0,yk BK517 0,yk BK517 1,yk BK521 0,yk BK521 1⟩ (fun hHeld=>?_)
         clear hK K
         refine rN (nA 58) ?_
         refine rO (N:=some 59) HT_ rfl rfl D5 D8 (fun K hK=>?_)
         refine Kd.N_append_rows_step (Kd.slice 5 (Kd.int .u8)) (w0:=w) w.heap.size D15 (.tmp 54) (.tmp 58) 25 24 (.slice none 0 0) 24 rfl Try.underlying25 info24 rfl D8 D11 u520000 x520000_2 t524 _ _ _ (fun k_=>some k_ ≠ (u7:Value).ownBlock∧k_ ≠ gb517∧k_ ≠ gb519∧k_ ≠ gb521) (fun k_=>((fun k_=>some k_ ≠ (u7:Value).ownBlock∧k_ ≠ gb517∧k_ ≠ gb519∧k_ ≠ gb521)) k_∧some k_ ≠ (u520000:Value).ownBlock) rfl rfl ?aO ?aR (fun _ hk=>hk) ?aF ?aB ?aS ?aL ?_
         (case aR=>exact (by skip;exact Kd.N_F (Kd.N_mono (ok':=(fun k_=>((fun k_=>some k_ ≠ (u7:Value).ownBlock∧k_ ≠ gb517∧k_ ≠ gb519∧k_ ≠ gb521)) k_∧some k_ ≠ (u520000:Value).ownBlock)) (HO526.out) (fun k_ hk=>⟨⟨hk.1,⟨hk.2.2.1,⟨hk.2.2.2.1,hk.2.2.2.2⟩⟩⟩,hk.2.1⟩))))
         (case aB=>exact (yW HB))
         (case aF=>exact (fun k_ hk=>⟨Kd.fresh' (Kd.R_lt (yR HO_7)) k_ hk,yz BK517 k_ hk,yz BK519 k_ hk,yz BK521 k_ hk⟩))
         (case aO=>exact (by refine sN ?_;exact Kd.N_mono HO_520000.out (fun _ hk=>⟨hk.1.1,⟨hk.1.2.1,⟨hk.1.2.2.1,hk.1.2.2.2⟩⟩⟩)))
         (case aS=>exact (pz (yW HB)))
         (case aL=>have:=LMc42.out;omega)
         intro v528 w49 ho hb hg hat
         rw [← Ny527.out] at ho
         have n0_:=am (Kd.R_over' (yR HO_7) (Kd.N_typed (yN HO_520000)) D8 hg)
         have n1_:=am (blk_grown (g:=gb517) (o:=.cells #[.int .i64 a0_0, .int .i64 a0_1] 30 (0,0)) (yB BK517) hg (Kd.N_ne HO_520000.out BK517.out D8))
         have n2_:=am (blk_grown (g:=gb519) (o:=.cells #[u520000] 27 (0,0)) (yB BK519) hg (Kd.N_ne HO_520000.out BK519.out D8))
         have n3_:=am (blk_grown (g:=gb521) (o:=.cells #[.int .i64 ((rd_T76 l1 x25_2).f0), .slice A520_1 ((rd_T76 l1 x25_2).f1).length c520_1] 76 (0,0)) (yB BK521) hg (Kd.N_ne HO_520000.out BK521.out D8))
         have n4_:=am (Kd.N_afterv (ok:=(fun k_=>some k_ ≠ (u7:Value).ownBlock∧k_ ≠ gb517∧k_ ≠ gb519∧k_ ≠ gb521)) (by refine sN ?_;exact Kd.N_mono HO526.out (fun _ hk=>⟨⟨hk.1,⟨hk.2.2.1,⟨hk.2.2.2.1,hk.2.2.2.2⟩⟩⟩,hk.2.1⟩)) hg hat)
         have n5_:=am (hb)
         have n6_:=am (ho)
         clear HO_7
         clear BK517
         clear BK519
         clear BK521
         clear HO526
         clear HB
         clear HO_520000
         have HO_7:=n0_
         have BK517:=n1_
         have BK519:=n2_
         have BK521:=n3_
         have HO526:=n4_
         have HB:=n5_
         have HO529:=n6_
         clear n0_ n1_ n2_ n3_ n4_ n5_ n6_
         clear ho hb hg hat
         obtain ⟨Ao51,co51,eo51⟩:=Kd.N_slice HO529.out
         (first|subst eo51|(injection eo51 with f1_ f2_ f3_;have f4_:=f1_.symm;have f5_:=f3_.symm;clear f1_ f2_ f3_;subst f4_;subst f5_))
         refine hK.out _ _ ⟨yk BK519 0,yk BK517 0,yk BK517 1,yk BK521 0,yk BK521 1⟩ (fun hHeld=>?_)
         clear hK K
         refine rN (nA 59) ?_
         refine rR ?_
         refine rL (N:=none) HT_ rfl rfl D5 D8 (fun K hK=>?_)
         have hs52:w49.cell? ⟨gb519,0,none⟩=some (u520000):=(blk_cell BK519.out 0).trans rfl
         have hfs52:=blk_frozen BK519.out 0
         have hns52_0:=NB517_519.out
         have hns52_2:=NB521_519.out
         have hms52_0:=NB519_517.out
         have hms52_2:=NB519_521.out
         refine skip_ (w1:=?_) D15 rfl ?_ ?_
         rotate_left
         ·go_simp
          rfl
         refine hK.out _ _ ?_
         clear hK K
         refine rD HT_ D5 ?_
         have hnb53:=NB521_519.out
         have hnc53:=NB519_521.out
         obtain ⟨hcz54_0,hcz54_1,hfz54_0,hfz54_1⟩:=yk2 BK521
         try go_wp2_with (first|((with_reducible refine gate_builtin (b:=.append) (xs:=#[.tmp 61, .tmp 63]) rfl ?_);(try (refine gate_guard D15 ?_;dsimp only));at_builtin;refine Kd.R_append_rows (Kd.int .u8) (w0:=w) w.heap.size rfl (.tmp 61) (.tmp 63) 24 5 (.int .u8 0) 1 rfl Try.underlying24 info5 rfl D8 D11 u7 x7_2 ((rd_T76 l1 x25_2).f1) _ _ _ (fun _=>True) (fun _=>False) rfl rfl (by exact (by refine sR ?_;exact Kd.R_mono (Kd.R_far (p:=⟨gb519,0,none⟩) (Kd.R_types HO_7.out BK519.out D8) (fun _ hk=>hk.2) (.slice Ao51 y527.length co51)) (fun _ hk=>trivial))) (by exact Kd.C_below HR520_1.out (yW HB)) (fun _ _ h=>h) (fun _ h=>h.elim) D41 D55 D47 (by have:=LMc43.out;omega) ?_;intro v531 w55 ho hb hg hat;rw [← Ny530.out] at ho;have n0_:=am (blk_grown (g:=gb517) (o:=.cells #[.int .i64 a0_0, .int .i64 a0_1] 30 (0,0)) (yF BK517) hg (Kd.R_ne HO_7.out BK517.out D8));have n1_:=am (blk_grown (g:=gb519) (o:=.cells #[.slice Ao51 y527.length co51] 27 (0,0)) (by refine sB ?_;refine blk_put (cs:=#[u520000]) ?_ 0 _ rfl;exact yB BK519) hg (Kd.R_ne HO_7.out BK519.out D8));have n2_:=am (blk_grown (g:=gb521) (o:=.cells #[.int .i64 ((rd_T76 l1 x25_2).f0), .slice A520_1 ((rd_T76 l1 x25_2).f1).length c520_1] 76 (0,0)) (yF BK521) hg (Kd.R_ne HO_7.out BK521.out D8));have n3_:=am (Kd.N_afterv (ok:=(fun k_=>some k_ ≠ (.slice Ao51 y527.length co51:Value).ownBlock∧k_ ≠ gb517∧k_ ≠ gb519∧k_ ≠ gb521)) (by refine sN ?_;exact Kd.N_mono (Kd.N_far (p:=⟨gb519,0,none⟩) (Kd.N_mono HO526.out (fun k_ hk=>(⟨hk,hk.1.2.2.1⟩:_∧k_ ≠ gb519))) (fun _ hk=>hk.2) (.slice Ao51 y527.length co51)) (fun _ hk=>⟨⟨hk.1.2,⟨hk.1.1.2.1,⟨hk.1.1.2.2.1,hk.1.1.2.2.2⟩⟩⟩,hk.1.1.1⟩)) hg hat);have n4_:=am (Kd.N_afterv (ok:=(fun k_=>k_ ≠ gb517∧k_ ≠ gb519∧k_ ≠ gb521)) (by refine sN ?_;exact Kd.N_mono (Kd.N_far (p:=⟨gb519,0,none⟩) (Kd.N_mono HO529.out (fun k_ hk=>(⟨hk,hk.2.2.1⟩:_∧k_ ≠ gb519))) (fun _ hk=>hk.2) (.slice Ao51 y527.length co51)) (fun _ hk=>⟨⟨hk.1.2.1,⟨hk.1.2.2.1,hk.1.2.2.2⟩⟩,hk.1.1⟩)) hg hat);have n5_:=am (hb);have n6_:=am (ho);clear BK517 BK519 BK521 HO526 HO529 HB HO_7;have BK517:=n0_;have BK519:=n1_;have BK521:=n2_;have HO526:=n3_;have HO529:=n4_;have HB:=n5_;have HO532:=n6_;clear n0_ n1_ n2_ n3_ n4_ n5_ n6_ ho hb hg hat))
         go_roundg kj18
         case measure=>have:=HJ2.out;have:=HK2.out;have:=HJ18.out;omega
         case rel=>exact ⟨(y530),(wrap64 (x25_2+1)),(y527),(.slice Ao51 y527.length co51),D1,H',⟨by have:=HJ2.out;have:=HK2.out;have:=HJ18.out;omega⟩,⟨yR HO532⟩,⟨by refine sN ?_;exact Kd.N_mono HO529.out (fun _ hk=>⟨hk.2,⟨hk.1.1,hk.1.2.1⟩⟩)⟩,⟨yB BK517⟩,⟨yB BK519⟩,⟨yW HB⟩⟩
        rw [if_neg c40] at H
        have c40b0:=decide_eq_false c40
        clear c40
        have H':=am H
        clear H
        have hnb56:=NB517_519.out
        have hnc56:=NB519_517.out
        have hnb57:=NB517_521.out
        have hnc57:=NB521_517.out
        obtain ⟨hcz58_0,hcz58_1,hfz58_0,hfz58_1⟩:=yk2 BK517
        go_wp2
        go_roundg kj18
        case measure=>have:=HJ2.out;have:=HK2.out;have:=HJ18.out;omega
        case rel=>exact ⟨(x7_2),(wrap64 (x25_2+1)),(x520000_2),(u520000),D1,H',⟨by have:=HJ2.out;have:=HK2.out;have:=HJ18.out;omega⟩,⟨yR HO_7⟩,⟨by refine sN ?_;exact Kd.N_mono HO_520000.out (fun _ hk=>⟨hk.1,⟨hk.2.1,hk.2.2.1⟩⟩)⟩,⟨yB BK517⟩,⟨yB BK519⟩,⟨yW HB⟩⟩
     rw [if_neg c16] at H
     have c16b0:=decide_eq_false c16
     clear c16
     obtain ⟨⟨t533,t536⟩,A59,H⟩:=yo H
     try dsimp only at H
     by_cases c60:t536=true
     ·subst c60
      replace H:=yt H
      obtain ⟨t538,A61,H⟩:=yo H
      simp only [Option.some.injEq,Prod.mk.injEq] at H
      obtain ⟨rfl,rfl⟩:=H
      have hnb62:=NB519_517.out
      have hnc62:=NB517_519.out
      obtain ⟨hcz63_0,hfz63_0⟩:=yk1 BK519
      obtain ⟨Ao64,co64,eo64⟩:=Kd.N_slice HO_520000.out
      subst eo64
      go_wp2_with (first|((with_reducible refine gC 114 ?_);refine gM (some 68) Try.func114 (args:=#[.agg #[.slice Ao64 x520000_2.length co64]]) (spec_l2Inverse.calls _ _ x520000_2 t533 true _ (yc (Kd.N_reads' HO_520000.out).2.2) (Kd.N_reads' HO_520000.out).2.1 A59.out) ?_;rintro e w65 ⟨v534,rfl,ho0,hb⟩;refine ⟨_,rfl,?_⟩;have HO535:=am (Kd.N_lower (Kd.N_mono (ok':=fun k_=>some k_ ≠ (u7:Value).ownBlock∧some k_ ≠ (.slice Ao64 x520000_2.length co64:Value).ownBlock∧k_ ≠ gb517∧k_ ≠ gb519) ho0 (fun k_ hk_=>⟨(Kd.fresh' (Kd.R_lt (yR HO_7)) k_ hk_),(Kd.fresh' (Kd.N_lt (yN HO_520000)) k_ hk_),(yz BK517 k_ hk_),(yz BK519 k_ hk_)⟩)) (pz (yW HB)));replace HO_7:=bR HO_7 hb;replace HO_520000:=eN HO_520000 D26 hb;replace BK517:=yb BK517 hb;replace BK519:=yb BK519 hb;replace HB:=yH HB hb;clear hb ho0)|((with_reducible refine gD 10 ?_);(try (refine gate_guard D15 ?_;dsimp only));refine gB (cs:=#[.slice none 0 0]) 27 ?_;intro gb537 hg w66 hbox hb;replace HO_7:=bR HO_7 hb;replace HO_520000:=oN HO_520000 hg hb;replace HO535:=oN HO535 hg hb;have BK537:=am (hbox);have GW537:=ye HB hg;replace HB:=yH HB hb;have NB517_537:=yl BK517 hg;have NB537_517:=yg BK517 hg;replace BK517:=yb BK517 hb;have NB519_537:=yl BK519 hg;have NB537_519:=yg BK519 hg;replace BK519:=yb BK519 hb;have GE537:=GW537;clear hb hbox hg;obtain ⟨Ao67,co67,eo67⟩:=Kd.N_slice HO535.out;subst eo67;have hnb68:=NB537_517.out;have hnc68:=NB517_537.out;have hnb69:=NB537_519.out;have hnc69:=NB519_537.out;obtain ⟨hcz70_0,hfz70_0⟩:=yk1 BK537;obtain ⟨Ao71,co71,eo71⟩:=Kd.R_slice HO_7.out;subst eo71)|((with_reducible refine gC 115 ?_);refine gM (some 75) Try.func115 (args:=#[.agg #[.slice Ao67 t533.length co67], .slice Ao71 x7_2.length co71]) (spec_l2Apply.calls k2 _ _ t533 _ _ x7_2 t538 _ ?side1 ?side2 ?side3 ?side4 A61.out) ?_;(case side1=>refine (Kd.N_reads' (e:=24) (base:=w.heap.size) (ok:=fun k_=>((some k_ ≠ (.slice Ao71 x7_2.length co71:Value).ownBlock∧(some k_ ≠ (.slice Ao64 x520000_2.length co64:Value).ownBlock∧(k_ ≠ gb517∧k_ ≠ gb519)))∧k_ ≠ gb537)) (n:=t533.length) (c:=co67) ?_).2.2;exact D74);(case side2=>exact (Kd.N_reads' HO535.out).2.1);(case side3=>refine (Kd.R_reads' (e:=5) (base:=w.heap.size) (ok:=fun k_=>True) (n:=x7_2.length) (c:=co71) ?_).2.2;exact D58);(case side4=>exact (Kd.R_reads' HO_7.out).2.1);rintro e w72 ⟨v539,rfl,ho0,hb⟩;refine ⟨_,rfl,?_⟩;replace HO_520000:=am (Kd.N_elder' (by refine sN ?_;exact (Kd.N_mono (Kd.N_far (p:=⟨gb537,0,none⟩) (Kd.N_mono HO_520000.out (fun k_ hk=>(⟨hk,hk.2⟩:_∧k_ ≠ gb537))) (fun _ hk=>hk.2) (.slice Ao67 t533.length co67)) (fun _ h_=>h_.1))) (Kd.R_base ho0) hb);replace HO535:=am (Kd.N_elder' D74 (Kd.R_base ho0) hb);have HO540:=am (Kd.R_lower (Kd.R_new' ho0 (Kd.R_lt D58)) (pz (yW HB)));replace HO_7:=am (Kd.R_elder' D58 (Kd.R_base ho0) hb);replace BK517:=am (qb (g:=gb517) (o:=.cells #[.int .i64 a0_0, .int .i64 a0_1] 30 (0,0)) (yF BK517) hb);replace BK519:=am (qb (g:=gb519) (o:=.cells #[.slice Ao64 x520000_2.length co64] 27 (0,0)) (yF BK519) hb);replace BK537:=am (qb (g:=gb537) (o:=.cells #[.slice Ao67 t533.length co67] 27 (0,0)) (by refine sB ?_;refine blk_put (cs:=#[.slice none 0 0]) ?_ 0 _ rfl;exact yB BK537) hb);replace HB:=yH HB hb;clear hb ho0))
      go_ret2
      exact ⟨_,D2,by refine sR ?_;exact Kd.R_mono HO540.out (fun _ hk=>trivial),yW HB⟩
     replace c60:=Bool.eq_false_iff.mpr c60
     subst c60
     replace H:=yn H
     simp only [Option.some.injEq,Prod.mk.injEq] at H
     obtain ⟨rfl,rfl⟩:=H
     have hnb73:=NB519_517.out
     have hnc73:=NB517_519.out
     obtain ⟨hcz74_0,hfz74_0⟩:=yk1 BK519
     obtain ⟨Ao75,co75,eo75⟩:=Kd.N_slice HO_520000.out
     subst eo75
     go_wp2_with (first|((with_reducible refine gC 114 ?_);refine gM (some 68) Try.func114 (args:=#[.agg #[.slice Ao75 x520000_2.length co75]]) (spec_l2Inverse.calls _ _ x520000_2 t533 false _ (yc (Kd.N_reads' HO_520000.out).2.2) (Kd.N_reads' HO_520000.out).2.1 A59.out) ?_;rintro e w76 ⟨v534,rfl,ho0,hb⟩;refine ⟨_,rfl,?_⟩;have HO535:=am (Kd.N_lower (Kd.N_mono (ok':=fun k_=>some k_ ≠ (u7:Value).ownBlock∧some k_ ≠ (.slice Ao75 x520000_2.length co75:Value).ownBlock∧k_ ≠ gb517∧k_ ≠ gb519) ho0 (fun k_ hk_=>⟨(Kd.fresh' (Kd.R_lt (yR HO_7)) k_ hk_),(Kd.fresh' (Kd.N_lt (yN HO_520000)) k_ hk_),(yz BK517 k_ hk_),(yz BK519 k_ hk_)⟩)) (pz (yW HB)));replace HO_7:=bR HO_7 hb;replace HO_520000:=eN HO_520000 D26 hb;replace BK517:=yb BK517 hb;replace BK519:=yb BK519 hb;replace HB:=yH HB hb;clear hb ho0)|((with_reducible refine gD 10 ?_);(try (refine gate_guard D15 ?_;dsimp only));refine gB (cs:=#[.slice none 0 0]) 27 ?_;intro gb537 hg w77 hbox hb;replace HO_7:=bR HO_7 hb;replace HO_520000:=oN HO_520000 hg hb;replace HO535:=oN HO535 hg hb;have BK537:=am (hbox);have GW537:=ye HB hg;replace HB:=yH HB hb;have NB517_537:=yl BK517 hg;have NB537_517:=yg BK517 hg;replace BK517:=yb BK517 hb;have NB519_537:=yl BK519 hg;have NB537_519:=yg BK519 hg;replace BK519:=yb BK519 hb;have GE537:=GW537;clear hb hbox hg;obtain ⟨Ao78,co78,eo78⟩:=Kd.N_slice HO535.out;subst eo78;have hnb79:=NB537_517.out;have hnc79:=NB517_537.out;have hnb80:=NB537_519.out;have hnc80:=NB519_537.out;obtain ⟨hcz81_0,hfz81_0⟩:=yk1 BK537))
     go_ret2
     exact ⟨_,D2,D14,yW HB⟩
end Go.Proofs.Yteflgifmdojahaa.PFnMsr
-- SQUEEZED
