import Derived.Test.YteflgifmdojahaaVFnRegeneratedB
import Derived.Test.YteflgifmdojahaaPFnRegeneratedx0
import Derived.Test.YteflgifmdojahaaPFnRegeneratedx1
import Derived.Test.YteflgifmdojahaaPFnRegeneratedx5
import Derived.Test.YteflgifmdojahaaPFnRegeneratedx6
namespace Go.Proofs.Yteflgifmdojahaa.PFnRegenerated
open Go.RowKit Go.Proofs.YteflgifmdojahaaW.PrintWords Go.Proofs.YteflgifmdojahaaW.PrintLast Go.Proofs.YteflgifmdojahaaW.PrintMore Go.Proofs.Yteflgifmdojahaa.KitS
attribute [local go_sem] max2_int min2_int max_two min_two max_three min_three max_four min_four
set_option linter.unusedVariables false
set_option maxHeartbeats 8000000
set_option maxRecDepth 100000
set_option linter.unusedSimpArgs false
mutual
def spec_RegeneratePiece.j0:Nat→Int→List (S85)→Int→Bool→Int→Int→Option (Int × List Int × Bool)
 | 0,_,_,_,_,_,_=>none
 | k+1,x1,x2,x8,x36,x492000,x492001=>if x36=true then (some (0,([]:List Int),false)) else (spec_RegeneratePiece.l0 k x1 x2 x8 ([]:List Int) x2 (x2.length:Int) 0 x492000 x492001 ([]:List (List Int)))
def spec_RegeneratePiece.l0:Nat→Int→List (S85)→Int→List Int→List (S85)→Int→Int→Int→Int→List (List Int)→Option (Int × List Int × Bool)
 | 0,_,_,_,_,_,_,_,_,_,_=>none
 | k+1,x1,x2,x8,x10,x39,x40,x41,x492000,x492001,x496000=>if x41 < x40 then (if 0≤x41 then (if x41 < (x39.length:Int) then ((spec_l1In.f ((rd_T85 x39 x41).f0) 0 (wrap64 (x492000 - 1))).bind fun t498=>(if t498=true then (if ((rd_T85 x39 x41).f0)=x1 then (some (0,([]:List Int),false)) else (if x41 > 0 then (if 0≤(wrap64 (x41 - 1)) then (if (wrap64 (x41 - 1)) < (x2.length:Int) then (if ((rd_T85 x2 (wrap64 (x41 - 1))).f0) ≥ ((rd_T85 x39 x41).f0) then (some (0,([]:List Int),false)) else ((spec_l5Row.f k x492000 x492001 ((rd_T85 x39 x41).f0)).bind fun t500=>(if x496000.length < 5864062014805 then (if x10.length < 140737488355328 then (spec_RegeneratePiece.l0 k x1 x2 x8 (x10 ++ [(rd_T85 x39 x41).f1]) x39 x40 (wrap64 (x41+1)) x492000 x492001 (x496000 ++ [t500])) else (none)) else (none)))) else (none)) else (none)) else ((spec_l5Row.f k x492000 x492001 ((rd_T85 x39 x41).f0)).bind fun t509=>(if x496000.length < 5864062014805 then (if x10.length < 140737488355328 then (spec_RegeneratePiece.l0 k x1 x2 x8 (x10 ++ [(rd_T85 x39 x41).f1]) x39 x40 (wrap64 (x41+1)) x492000 x492001 (x496000 ++ [t509])) else (none)) else (none))))) else (some (0,([]:List Int),false)))) else (none)) else (none)) else ((spec_l2Inverse.f x496000).bind fun bt518=>(if bt518.2=true then ((spec_l2Apply.f k bt518.1 x10).bind fun t523=>(if 0≤x8 then (if x8≤(t523.length:Int) then ((spec_l5F.f k x492000 x492001 x1).bind fun t531=>((spec_l1Scale.f k t531 (t523.drop (x8:Int).toNat)).bind fun t537=>((spec_l1Add.f k (t523.take (x8:Int).toNat) t537).bind fun t540=>(some (x1,t540,true))))) else (none)) else (none))) else (some (0,([]:List Int),false))))
end
def spec_RegeneratePiece.f (k:Nat) (a0_0:Int) (a0_1:Int) (a1:Int) (l2:List (S85)):Option (Int × List Int × Bool):=(spec_GoodMsr.f a0_0 a0_1).bind fun t493=>(if t493=true then ((spec_l1In.f a1 0 (wrap64 (a0_0 - 1))).bind fun t494=>(if t494=true then (spec_RegeneratePiece.j0 k a1 l2 (wrap64 (a0_1 - 1)) ((l2.length:Int) != (wrap64 (2*(wrap64 (a0_1 - 1))))) a0_0 a0_1) else (spec_RegeneratePiece.j0 k a1 l2 (wrap64 (a0_1 - 1)) true a0_0 a0_1))) else (spec_RegeneratePiece.j0 k a1 l2 (wrap64 (a0_1 - 1)) true a0_0 a0_1))
theorem spec_RegeneratePiece.mono_l:∀ k,(∀ y0 y1 y2 y3 y4 y5,LeO (spec_RegeneratePiece.j0 k y0 y1 y2 y3 y4 y5) (spec_RegeneratePiece.j0 (k+1) y0 y1 y2 y3 y4 y5))∧(∀ y0 y1 y2 y3 y4 y5 y6 y7 y8 y9,LeO (spec_RegeneratePiece.l0 k y0 y1 y2 y3 y4 y5 y6 y7 y8 y9) (spec_RegeneratePiece.l0 (k+1) y0 y1 y2 y3 y4 y5 y6 y7 y8 y9))
 | 0=>⟨fun _ _ _ _ _ _ r h=>by simp [spec_RegeneratePiece.j0] at h,fun _ _ _ _ _ _ _ _ _ _ r h=>by simp [spec_RegeneratePiece.l0] at h⟩
 | k+1=>by
  obtain ⟨ih0,ih1⟩:=spec_RegeneratePiece.mono_l k
  refine ⟨?_,?_⟩
  ·intro y0 y1 y2 y3 y4 y5
   unfold spec_RegeneratePiece.j0
   exact mm
  intro y0 y1 y2 y3 y4 y5 y6 y7 y8 y9
  unfold spec_RegeneratePiece.l0
  exact mm
theorem spec_RegeneratePiece.mono:∀ a0 a1 a2 a3 k,LeO (spec_RegeneratePiece.f k a0 a1 a2 a3) (spec_RegeneratePiece.f (k+1) a0 a1 a2 a3):=by
 intro a0 a1 a2 a3 k
 obtain ⟨ih0,ih1⟩:=spec_RegeneratePiece.mono_l k
 unfold spec_RegeneratePiece.f
 exact mm
def spec_RegeneratePiece.T9:Bool × List (List Nat × List Nat):=(true,[([],[]),([0],[0]),([],[]),([2],[2]),([3],[3]),([1,4],[1,4]),([5],[5]),([6,5],[6]),([7],[7]),([8,7],[7,8]),([7],[7]),([9,10,7],[7,9,10]),([7,11],[7,11]),([12,7],[12]),([13],[13]),([14,13],[13,14]),([15,13,13],[13,15]),([16],[16]),([16],[16]),([18,16],[16,18]),([17,19,16],[16,17,19]),([20,16],[16,20]),([21,16],[16,21]),([16],[16]),([23,16],[16,23]),([22,24,16],[16,22,24]),([16,25,13],[13,16,25]),([13,26],[13,26])])
def spec_RegeneratePiece.B9:List Nat:=[0,1,0,4,12,31,63,127,255,511,255,2047,4095,8191,16383,32767,65535,131071,131071,393215,1048575,2097151,4194303,131071,8519679,33554431,67108863,134217727]
theorem spec_RegeneratePiece.tab9:rtab .any (opsOf Try.f57 9)=spec_RegeneratePiece.T9:=by kernel_rfl
theorem spec_RegeneratePiece.bits9:waitsOk spec_RegeneratePiece.T9.2 spec_RegeneratePiece.B9=true:=by kernel_rfl
def spec_RegeneratePiece.T11:Bool × List (List Nat × List Nat):=(true,[([],[]),([0],[0]),([],[]),([],[]),([3],[3]),([2,4],[2,4]),([5],[5]),([1,6,5],[1,6]),([0,1,2,3,4,5,6,7],[]),([8,7,7,0,1,2,3,4,5,6,7],[7,8])])
def spec_RegeneratePiece.B11:List Nat:=[0,1,0,0,8,28,60,127,255,511]
theorem spec_RegeneratePiece.tab11:rtab .any (opsOf Try.f57 11)=spec_RegeneratePiece.T11:=by kernel_rfl
theorem spec_RegeneratePiece.bits11:waitsOk spec_RegeneratePiece.T11.2 spec_RegeneratePiece.B11=true:=by kernel_rfl
def spec_RegeneratePiece.T18:Bool × List (List Nat × List Nat):=(true,[([],[]),([],[]),([],[]),([1,2],[1,2]),([],[]),([],[]),([4,5],[4,5]),([],[]),([],[]),([7,8],[7,8]),([6,9,6],[6,9]),([3,10,10],[3,10]),([0,11],[0,11]),([12,11,0,1,2,3,4,5,6,7,8,9,10,11,12],[12]),([13,0,1,2,3,4,5,6,7,8,9,10,11,12,13],[])])
def spec_RegeneratePiece.B18:List Nat:=[0,0,0,6,0,0,48,0,0,384,1008,2046,4095,8191,16383]
theorem spec_RegeneratePiece.tab18:rtab .any (opsOf Try.f57 18)=spec_RegeneratePiece.T18:=by kernel_rfl
theorem spec_RegeneratePiece.bits18:waitsOk spec_RegeneratePiece.T18.2 spec_RegeneratePiece.B18=true:=by kernel_rfl
theorem spec_RegeneratePiece.calls (k:Nat) (a0_0:Int) (a0_1:Int) (a1:Int) (A2:Option Addr) (c2:Nat) (l2:List (S85)) (r1:Int) (r2:List Int) (r3:Bool) (w:World) (hr2:Kd.C k85 w A2 l2.length l2) (hc2:l2.length≤c2) (h:spec_RegeneratePiece.f k a0_0 a0_1 a1 l2=some (r1,r2,r3)) :
  Calls Try.prog 57 #[.agg #[.int .i64 a0_0, .int .i64 a0_1], .int .i64 a1, .slice A2 l2.length c2] w fun e w'=>∃ v1_:Value,e = .returned (.tuple #[.agg #[.int .i64 r1,v1_], .bool r3])∧Kd.R (Kd.int .u8) 5 w' w.heap.size (fun _=>True) v1_ r2∧Below w.heap.size w w':=by
 have hu30:=Try.underlying30
 have hu76:=Try.underlying76
 have hu27:=Try.underlying27
 have hu85:=Try.underlying85
 have HR2:=am hr2
 have HC2:=am hc2
 clear hr2 hc2
 have HB:=am (Below.refl w.heap.size w)
 have H:=h
 unfold spec_RegeneratePiece.f at H
 clear h
 have HC4:=am H
 clear H
 go_enter Try.func57,Try.ntmps57
 go_upto_region 2 with (first|((with_reducible refine gD 3 ?_);(try (refine gate_guard D16 ?_;dsimp only));refine gB (cs:=#[.int .i64 a0_0, .int .i64 a0_1]) 30 ?_;intro gb491 hg w5 hbox hb;have BK491:=am (hbox);have GW491:=ye HB hg;replace HB:=yH HB hb;have GE491:=GW491;clear hb hbox hg)|((with_reducible refine gD 6 ?_);(try (refine gate_guard D16 ?_;dsimp only));refine gB (cs:=#[.int .i64 0, .slice none 0 0]) 76 ?_;intro gb492 hg w6 hbox hb;have BK492:=am (hbox);have GW492:=ye HB hg;replace HB:=yH HB hb;have NB491_492:=yl BK491 hg;have NB492_491:=yg BK491 hg;replace BK491:=yb BK491 hb;have GE492:=GW492;clear hb hbox hg;have hnb7:=NB491_492.out;have hnc7:=NB492_491.out;obtain ⟨hcz8_0,hcz8_1,hfz8_0,hfz8_1⟩:=yk2 BK491))
 (try simp only [Act.put,q1,q2,q3])
 go_cut [36] (fun v36 wc=>∃ (kq:Nat) (x36_3:Bool),v36 = .bool x36_3∧Aside0 (spec_RegeneratePiece.j0 kq a1 l2 (wrap64 (a0_1 - 1)) x36_3 a0_0 a0_1=some (r1,r2,r3))∧Aside0 (kq≤k)∧Aside0 (wc.heap[gb491]? = some (.cells #[.int .i64 a0_0, .int .i64 a0_1] 30 (0,0)))∧Aside0 (wc.heap[gb492]? = some (.cells #[.int .i64 0,(.slice none 0 0)] 76 (0,0)))∧Aside0 (Below w.heap.size w wc))
 case first =>
  have H:=HC4.out
  clear HC4
  obtain ⟨t493,A9,H⟩:=yo H
  by_cases c10:t493=true
  ·subst c10
   replace H:=yt H
   obtain ⟨t494,A11,H⟩:=yo H
   by_cases c12:t494=true
   ·subst c12
    replace H:=yt H
    have H':=am H
    clear H
    have hnb13:=NB491_492.out
    have hnc13:=NB492_491.out
    obtain ⟨hcz14_0,hcz14_1,hfz14_0,hfz14_1⟩:=yk2 BK491
    go_wp2_with (first|((with_reducible refine gC 47 ?_);refine gM (some 20) Try.func47 (args:=#[.agg #[.int .i64 a0_0, .int .i64 a0_1]]) (spec_GoodMsr.calls a0_0 a0_1 true _ A9.out) ?_;rintro e w15 ⟨rfl,hb⟩;refine ⟨_,rfl,?_⟩;replace BK491:=yb BK491 hb;replace BK492:=yb BK492 hb;replace HB:=yH HB hb;clear hb;obtain ⟨hcz16_0,hcz16_1,hfz16_0,hfz16_1⟩:=yk2 BK491)|(go_at_call 84;(with_reducible refine (spec_l1In.calls a1 0 (wrap64 (a0_0 - 1)) true _ A11.out).mono ?_);rintro e w' ⟨rfl,⟨nd,rfl⟩⟩))
    go_meet
    case rel=>exact ⟨_,(((l2.length:Int) != (wrap64 (2*(wrap64 (a0_1 - 1)))))),D1,H',⟨D57⟩,⟨yB BK491⟩,⟨yB BK492⟩,⟨yW HB⟩⟩
   replace c12:=Bool.eq_false_iff.mpr c12
   subst c12
   replace H:=yn H
   have H':=am H
   clear H
   have hnb17:=NB491_492.out
   have hnc17:=NB492_491.out
   obtain ⟨hcz18_0,hcz18_1,hfz18_0,hfz18_1⟩:=yk2 BK491
   go_wp2_with (first|((with_reducible refine gC 47 ?_);refine gM (some 20) Try.func47 (args:=#[.agg #[.int .i64 a0_0, .int .i64 a0_1]]) (spec_GoodMsr.calls a0_0 a0_1 true _ A9.out) ?_;rintro e w19 ⟨rfl,hb⟩;refine ⟨_,rfl,?_⟩;replace BK491:=yb BK491 hb;replace BK492:=yb BK492 hb;replace HB:=yH HB hb;clear hb;obtain ⟨hcz20_0,hcz20_1,hfz20_0,hfz20_1⟩:=yk2 BK491)|(go_at_call 84;(with_reducible refine (spec_l1In.calls a1 0 (wrap64 (a0_0 - 1)) false _ A11.out).mono ?_);rintro e w' ⟨rfl,⟨nd,rfl⟩⟩))
   go_meet
   case rel=>exact ⟨_,(true),D1,H',⟨D57⟩,⟨yB BK491⟩,⟨yB BK492⟩,⟨yW HB⟩⟩
  replace c10:=Bool.eq_false_iff.mpr c10
  subst c10
  replace H:=yn H
  have H':=am H
  clear H
  have hnb21:=NB491_492.out
  have hnc21:=NB492_491.out
  obtain ⟨hcz22_0,hcz22_1,hfz22_0,hfz22_1⟩:=yk2 BK491
  go_wp2_with (first|((with_reducible refine gC 47 ?_);refine gM (some 20) Try.func47 (args:=#[.agg #[.int .i64 a0_0, .int .i64 a0_1]]) (spec_GoodMsr.calls a0_0 a0_1 false _ A9.out) ?_;rintro e w23 ⟨rfl,hb⟩;refine ⟨_,rfl,?_⟩;replace BK491:=yb BK491 hb;replace BK492:=yb BK492 hb;replace HB:=yH HB hb;clear hb))
  go_meet
  case rel=>exact ⟨_,(true),D1,H',⟨D57⟩,⟨yB BK491⟩,⟨yB BK492⟩,⟨yW HB⟩⟩
 case rest =>
  clear HC4
  try clear c1
  try clear c2
  try clear p2
  try clear c4
  try clear c5
  try clear p6
  try clear c7
  try clear c10
  try clear c12
  try clear c13
  try clear c17
  try clear c21
  try clear hcz14_0
  try clear hcz14_1
  try clear hcz16_0
  try clear hcz16_1
  try clear hcz18_0
  try clear hcz18_1
  try clear hcz20_0
  try clear hcz20_1
  try clear hcz22_0
  try clear hcz22_1
  try clear hcz8_0
  try clear hcz8_1
  try clear hfz14_0
  try clear hfz14_1
  try clear hfz16_0
  try clear hfz16_1
  try clear hfz18_0
  try clear hfz18_1
  try clear hfz20_0
  try clear hfz20_1
  try clear hfz22_0
  try clear hfz22_1
  try clear hfz8_0
  try clear hfz8_1
  obtain ⟨kq,x36_3,rfl,HA,HJ3,BK491,BK492,HB⟩:=hcut
  cases kq with
  | zero=>exact absurd HA.out (by simp [spec_RegeneratePiece.j0])
  | succ kj3 =>
   have H:=HA.out
   clear HA
   simp only [spec_RegeneratePiece.j0] at H
   by_cases c24:x36_3=true
   ·subst c24
    replace H:=yt H
    simp only [Option.some.injEq,Prod.mk.injEq] at H
    obtain ⟨rfl,rfl,rfl⟩:=H
    have hnb25:=NB492_491.out
    have hnc25:=NB491_492.out
    obtain ⟨hcz26_0,hcz26_1,hfz26_0,hfz26_1⟩:=yk2 BK492
    go_wp2
    refine bodyPost_ret (results_ct rfl _ _ gb492 76 #[.int .i64 0, .slice none 0 0] (0,0) _ rfl (by refine sB ?_;refine blk_put (cs:=#[.int .i64 0, .slice none 0 0]) ?_ 1 _ rfl;refine sB ?_;refine blk_put (cs:=#[.int .i64 0, .slice none 0 0]) ?_ 0 _ rfl;exact yB BK492) Try.underlying76 rfl D2) rfl ?_
    exact ⟨_,D3,D10,yW HB⟩
   replace c24:=Bool.eq_false_iff.mpr c24
   subst c24
   replace H:=yn H
   have H':=am H
   clear H
   go_wp2_with (first|((with_reducible refine gD 9 ?_);(try (refine gate_guard D16 ?_;dsimp only));refine gB (cs:=#[.slice none 0 0]) 27 ?_;intro gb495 hg w27 hbox hb;have BK495:=am (hbox);have GW495:=ye HB hg;replace HB:=yH HB hb;have NB491_495:=yl BK491 hg;have NB495_491:=yg BK491 hg;replace BK491:=yb BK491 hb;have NB492_495:=yl BK492 hg;have NB495_492:=yg BK492 hg;replace BK492:=yb BK492 hb;have GE495:=GW495;clear hb hbox hg;have hnb28:=NB495_491.out;have hnc28:=NB491_495.out;have hnb29:=NB495_492.out;have hnc29:=NB492_495.out;obtain ⟨hcz30_0,hfz30_0⟩:=yk1 BK495))
   go_loopg [10,41] kj3 (fun kq v10 v41 w'=>∃ (x10_2:List Int) (x41_2:Int) (x493000_2:Int) (x496000_2:List (List Int)) (u496000:Value),v41 = .int .i64 x41_2∧Aside0 (spec_RegeneratePiece.l0 kq a1 l2 (wrap64 (a0_1 - 1)) x10_2 l2 (l2.length:Int) x41_2 a0_0 a0_1 x496000_2=some (r1,r2,r3))∧Aside0 (kq≤kj3)∧Aside0 (Kd.R (Kd.int .u8) 5 w' w.heap.size (fun _=>True) v10 x10_2)∧Aside0 (Kd.N (Kd.slice 5 (Kd.int .u8)) 24 w' w.heap.size (fun k_=>some k_ ≠ (v10:Value).ownBlock∧k_ ≠ gb491∧k_ ≠ gb492∧k_ ≠ gb495) u496000 x496000_2)∧Aside0 (w'.heap[gb491]? = some (.cells #[.int .i64 a0_0, .int .i64 a0_1] 30 (0,0)))∧Aside0 (w'.heap[gb492]? = some (.cells #[.int .i64 x493000_2,(.slice none 0 0)] 76 (0,0)))∧Aside0 (w'.heap[gb495]? = some (.cells #[u496000] 27 (0,0)))∧Aside0 (Below w.heap.size w w'))
   case atStart=>exact ⟨(([]:List Int)),(0),(0),(([]:List (List Int))),(.slice none 0 0),D1,H',⟨Nat.le_refl _⟩,⟨D10⟩,⟨D34⟩,⟨yF BK491⟩,⟨yF BK492⟩,⟨by refine sB ?_;refine blk_put (cs:=#[.slice none 0 0]) ?_ 0 _ rfl;exact yB BK495⟩,⟨yW HB⟩⟩
   case round =>
    clear H'
    try clear c1
    try clear c2
    try clear p2
    try clear c4
    try clear c5
    try clear p6
    try clear c7
    try clear c10
    try clear c12
    try clear c13
    try clear c17
    try clear c21
    try clear c24
    try clear c25
    try clear c28
    try clear c29
    try clear hcz14_0
    try clear hcz14_1
    try clear hcz16_0
    try clear hcz16_1
    try clear hcz18_0
    try clear hcz18_1
    try clear hcz20_0
    try clear hcz20_1
    try clear hcz22_0
    try clear hcz22_1
    try clear hcz26_0
    try clear hcz26_1
    try clear hcz30_0
    try clear hcz8_0
    try clear hcz8_1
    try clear hfz14_0
    try clear hfz14_1
    try clear hfz16_0
    try clear hfz16_1
    try clear hfz18_0
    try clear hfz18_1
    try clear hfz20_0
    try clear hfz20_1
    try clear hfz22_0
    try clear hfz22_1
    try clear hfz26_0
    try clear hfz26_1
    try clear hfz30_0
    try clear hfz8_0
    try clear hfz8_1
    try clear p2
    try clear p6
    obtain ⟨x10_2,x41_2,x493000_2,x496000_2,u496000,rfl,HA,HK2,HO_10,HO_496000,BK491,BK492,BK495,HB⟩:=hrel
    cases gk with
    | zero=>exact absurd HA.out (by simp [spec_RegeneratePiece.l0])
    | succ k2 =>
     have H:=HA.out
     clear HA
     simp only [spec_RegeneratePiece.l0] at H
     by_cases c31:x41_2 < (l2.length:Int)
     ·rw [if_pos c31] at H
      have c31b0:=decide_eq_true c31
      clear c31
      by_cases c32:0≤x41_2
      ·rw [if_pos c32] at H
       have c32b0:=decide_eq_true c32
       clear c32
       by_cases c33:x41_2 < (l2.length:Int)
       ·rw [if_pos c33] at H
        have c33b0:=decide_eq_true c33
        clear c33
        obtain ⟨t498,A34,H⟩:=yo H
        by_cases c35:t498=true
        ·subst c35
         replace H:=yt H
         by_cases c36:((rd_T85 l2 x41_2).f0)=a1
         ·rw [if_pos c36] at H
          have c36b0:(((rd_T85 l2 x41_2).f0) == a1)=true:=beq_iff_eq.mpr c36
          have c36b1:(((rd_T85 l2 x41_2).f0) != a1)=false:=bne_eq_false_iff_eq.mpr c36
          clear c36
          simp only [Option.some.injEq,Prod.mk.injEq] at H
          obtain ⟨rfl,rfl,rfl⟩:=H
          have p496:0≤(x41_2:Int):=od D0
          have q496:x41_2 < (l2.length:Int):=od D0
          obtain ⟨ad496,e496,hx496_0,hx496_1⟩:=at_T85 HR2.out x41_2 p496 q496
          cases e496
          replace hx496_0:=(HB.out.cell (World.block_lt_of_cell? w _ hx496_0)).trans hx496_0
          replace hx496_1:=(HB.out.cell (World.block_lt_of_cell? w _ hx496_1)).trans hx496_1
          replace p496:=eq_true p496
          replace q496:=eq_true q496
          try go_wp2_with (first|((with_reducible refine gD 12 ?_);(try (refine gate_guard D16 ?_;dsimp only));refine gB (cs:=#[.int .i64 0, .int .u8 0]) 85 ?_;intro gb497 hg w37 hbox hb;replace HO_10:=bR HO_10 hb;replace HO_496000:=oN HO_496000 hg hb;have BK497:=am (hbox);have GW497:=ye HB hg;replace HB:=yH HB hb;have NB491_497:=yl BK491 hg;have NB497_491:=yg BK491 hg;replace BK491:=yb BK491 hb;have NB492_497:=yl BK492 hg;have NB497_492:=yg BK492 hg;replace BK492:=yb BK492 hb;have NB495_497:=yl BK495 hg;have NB497_495:=yg BK495 hg;replace BK495:=yb BK495 hb;have GE497:=GW497;clear hb hbox hg;have hnb38:=NB497_491.out;have hnc38:=NB491_497.out;have hnb39:=NB497_492.out;have hnc39:=NB492_497.out;have hnb40:=NB497_495.out;have hnc40:=NB495_497.out;obtain ⟨hcz41_0,hcz41_1,hfz41_0,hfz41_1⟩:=yk2 BK497))
          generalize hw_:((w37.setCell ⟨gb497,0,none⟩ (.int .i64 ((rd_T85 l2 x41_2).f0))).setCell ⟨gb497,1,none⟩ (.int .u8 ((rd_T85 l2 x41_2).f1)))=w42
          replace HO_10:Aside0 (Kd.R (Kd.int .u8) 5 w42 w.heap.size (fun _=>True) u10 x10_2):=⟨D28⟩
          replace HO_496000:Aside0 (Kd.N (Kd.slice 5 (Kd.int .u8)) 24 w42 w.heap.size (fun k_=>some k_ ≠ (u10:Value).ownBlock∧k_ ≠ gb491∧k_ ≠ gb492∧k_ ≠ gb495∧k_ ≠ gb497) u496000 x496000_2):=⟨D18⟩
          replace BK491:Aside0 (w42.heap[gb491]? = some (.cells #[.int .i64 a0_0, .int .i64 a0_1] 30 (0,0))):=⟨by rw [← hw_];exact yF BK491⟩
          replace BK492:Aside0 (w42.heap[gb492]? = some (.cells #[.int .i64 x493000_2, .slice none 0 0] 76 (0,0))):=⟨by rw [← hw_];exact yF BK492⟩
          replace BK495:Aside0 (w42.heap[gb495]? = some (.cells #[u496000] 27 (0,0))):=⟨by rw [← hw_];exact yF BK495⟩
          replace BK497:Aside0 (w42.heap[gb497]? = some (.cells #[.int .i64 ((rd_T85 l2 x41_2).f0), .int .u8 ((rd_T85 l2 x41_2).f1)] 85 (0,0))):=⟨D35⟩
          replace HB:Aside0 (Below w.heap.size w w42):=⟨D69⟩
          clear hw_
          replace HO_10:=am (Kd.R_drew HO_10.out)
          replace HO_496000:=am (Kd.N_drew HO_496000.out)
          replace BK491:=am (qd BK491.out)
          replace BK492:=am (qd BK492.out)
          replace BK495:=am (qd BK495.out)
          replace BK497:=am (qd BK497.out)
          replace HB:=am (pd HB.out)
          refine rS (n:=28) (S:=fun w'=>w'.cell? ⟨gb497,0,none⟩=some (.int .i64 ((rd_T85 l2 x41_2).f0))∧w'.cell? ⟨gb497,1,none⟩=some (.int .u8 ((rd_T85 l2 x41_2).f1))∧w'.cell? ⟨gb491,0,none⟩=some (.int .i64 a0_0)∧w'.cell? ⟨gb491,1,none⟩=some (.int .i64 a0_1)) (ds:=[]) [(0,46),(2,48),(1,47),(3,49),(4,50),(5,0),(6,52),(7,53),(8,54),(10,56),(9,55),(11,57),(12,58),(13,59),(14,60),(15,61),(16,62),(17,63),(18,64),(19,65),(20,66),(21,67),(22,68),(23,69),(24,70),(25,71),(26,72),(27,73)] D2 rfl spec_RegeneratePiece.tab9 spec_RegeneratePiece.bits9 ⟨yk BK497 0,yk BK497 1,yk BK491 0,yk BK491 1⟩ (fun hHeld HT_ HW_=>?_)
          generalize w42.drew=w43 at HO_10 HO_496000 BK491 BK492 BK495 BK497 HB hHeld ⊢
          refine rR ?_
          refine rO (N:=some 51) HT_ rfl rfl D2 D5 (fun K hK=>?_)
          refine goes_ Try.func84 D2 rfl #[.int .i64 ((rd_T85 l2 x41_2).f0), .int .i64 0, .int .i64 (wrap64 (a0_0 - 1))] D16 rfl rfl D8 ?_
          with_reducible refine (spec_l1In.calls ((rd_T85 l2 x41_2).f0) 0 (wrap64 (a0_0 - 1)) true _ A34.out).mono ?_
          rintro e w' ⟨rfl,⟨nd,rfl⟩⟩
          refine ⟨_,rfl,?_⟩
          refine hK.out _ _ ⟨yk BK497 0,yk BK497 1,yk BK491 0,yk BK491 1⟩ (fun hHeld=>?_)
          clear hK K
          refine rN (nA 51) ?_
          refine rR ?_
          refine rD HT_ D2 ?_
          have hnb44:=NB492_491.out
          have hnc44:=NB491_492.out
          have hnb45:=NB492_495.out
          have hnc45:=NB495_492.out
          obtain ⟨hcz46_0,hcz46_1,hfz46_0,hfz46_1⟩:=yk2 BK492
          try go_wp2
          refine bodyPost_ret (results_ct rfl _ _ gb492 76 #[.int .i64 0, .slice none 0 0] (0,0) _ rfl D70 Try.underlying76 rfl D2) rfl ?_
          exact ⟨_,D3,D10,yW HB⟩
         rw [if_neg c36] at H
         have c36b0:(((rd_T85 l2 x41_2).f0) == a1)=false:=beq_eq_false_iff_ne.mpr c36
         have c36b1:(((rd_T85 l2 x41_2).f0) != a1)=true:=bne_iff_ne.mpr c36
         by_cases c47:x41_2 > 0
         ·rw [if_pos c47] at H
          have c47b0:decide (0 < x41_2)=true:=decide_eq_true c47
          clear c47
          generalize hji48:(wrap64 (x41_2 - 1))=ji48 at H
          (try rw [hji48] at A34)
          have hji48w:(IntKind.i64.wrap (x41_2 - 1))=ji48:=(i64_w _).trans hji48
          by_cases c49:0≤(ji48)
          ·rw [if_pos c49] at H
           have c49b0:=decide_eq_true c49
           clear c49
           by_cases c50:(ji48) < (l2.length:Int)
           ·rw [if_pos c50] at H
            have c50b0:=decide_eq_true c50
            clear c50
            by_cases c51:((rd_T85 l2 (ji48)).f0) ≥ ((rd_T85 l2 x41_2).f0)
            ·rw [if_pos c51] at H
             have c51b0:decide (((rd_T85 l2 x41_2).f0)≤((rd_T85 l2 (ji48)).f0))=true:=decide_eq_true c51
             clear c51
             simp only [Option.some.injEq,Prod.mk.injEq] at H
             obtain ⟨rfl,rfl,rfl⟩:=H
             have p496:0≤(x41_2:Int):=od D0
             have q496:x41_2 < (l2.length:Int):=od D0
             obtain ⟨ad496,e496,hx496_0,hx496_1⟩:=at_T85 HR2.out x41_2 p496 q496
             cases e496
             replace hx496_0:=(HB.out.cell (World.block_lt_of_cell? w _ hx496_0)).trans hx496_0
             replace hx496_1:=(HB.out.cell (World.block_lt_of_cell? w _ hx496_1)).trans hx496_1
             replace p496:=eq_true p496
             replace q496:=eq_true q496
             try go_wp2_with (first|((with_reducible refine gD 12 ?_);(try (refine gate_guard D16 ?_;dsimp only));refine gB (cs:=#[.int .i64 0, .int .u8 0]) 85 ?_;intro gb497 hg w52 hbox hb;replace HO_10:=bR HO_10 hb;replace HO_496000:=oN HO_496000 hg hb;have BK497:=am (hbox);have GW497:=ye HB hg;replace HB:=yH HB hb;have NB491_497:=yl BK491 hg;have NB497_491:=yg BK491 hg;replace BK491:=yb BK491 hb;have NB492_497:=yl BK492 hg;have NB497_492:=yg BK492 hg;replace BK492:=yb BK492 hb;have NB495_497:=yl BK495 hg;have NB497_495:=yg BK495 hg;replace BK495:=yb BK495 hb;have GE497:=GW497;clear hb hbox hg;have hnb53:=NB497_491.out;have hnc53:=NB491_497.out;have hnb54:=NB497_492.out;have hnc54:=NB492_497.out;have hnb55:=NB497_495.out;have hnc55:=NB495_497.out;obtain ⟨hcz56_0,hcz56_1,hfz56_0,hfz56_1⟩:=yk2 BK497))
             generalize hw_:((w52.setCell ⟨gb497,0,none⟩ (.int .i64 ((rd_T85 l2 x41_2).f0))).setCell ⟨gb497,1,none⟩ (.int .u8 ((rd_T85 l2 x41_2).f1)))=w57
             replace HO_10:Aside0 (Kd.R (Kd.int .u8) 5 w57 w.heap.size (fun _=>True) u10 x10_2):=⟨D28⟩
             replace HO_496000:Aside0 (Kd.N (Kd.slice 5 (Kd.int .u8)) 24 w57 w.heap.size (fun k_=>some k_ ≠ (u10:Value).ownBlock∧k_ ≠ gb491∧k_ ≠ gb492∧k_ ≠ gb495∧k_ ≠ gb497) u496000 x496000_2):=⟨D18⟩
             replace BK491:Aside0 (w57.heap[gb491]? = some (.cells #[.int .i64 a0_0, .int .i64 a0_1] 30 (0,0))):=⟨by rw [← hw_];exact yF BK491⟩
             replace BK492:Aside0 (w57.heap[gb492]? = some (.cells #[.int .i64 x493000_2, .slice none 0 0] 76 (0,0))):=⟨by rw [← hw_];exact yF BK492⟩
             replace BK495:Aside0 (w57.heap[gb495]? = some (.cells #[u496000] 27 (0,0))):=⟨by rw [← hw_];exact yF BK495⟩
             replace BK497:Aside0 (w57.heap[gb497]? = some (.cells #[.int .i64 ((rd_T85 l2 x41_2).f0), .int .u8 ((rd_T85 l2 x41_2).f1)] 85 (0,0))):=⟨D35⟩
             replace HB:Aside0 (Below w.heap.size w w57):=⟨D69⟩
             clear hw_
             replace HO_10:=am (Kd.R_drew HO_10.out)
             replace HO_496000:=am (Kd.N_drew HO_496000.out)
             replace BK491:=am (qd BK491.out)
             replace BK492:=am (qd BK492.out)
             replace BK495:=am (qd BK495.out)
             replace BK497:=am (qd BK497.out)
             replace HB:=am (pd HB.out)
             have p499:0≤((ji48):Int):=od D0
             have q499:(ji48) < (l2.length:Int):=od D0
             obtain ⟨ad499,e499,hx499_0,hx499_1⟩:=at_T85 HR2.out (ji48) p499 q499
             have hw499_1:=hx499_1
             have hw499_0:=hx499_0
             obtain rfl:ad496=ad499:=(by injection e499)
             replace hx499_0:=(HB.out.cell (World.block_lt_of_cell? w _ hx499_0)).trans hx499_0
             replace hx499_1:=(HB.out.cell (World.block_lt_of_cell? w _ hx499_1)).trans hx499_1
             replace p499:=eq_true p499
             replace q499:=eq_true q499
             refine rS (n:=28) (S:=fun w'=>w'.cell? ⟨gb497,0,none⟩=some (.int .i64 ((rd_T85 l2 x41_2).f0))∧w'.cell? ⟨gb497,1,none⟩=some (.int .u8 ((rd_T85 l2 x41_2).f1))∧w'.cell? ⟨gb491,0,none⟩=some (.int .i64 a0_0)∧w'.cell? ⟨gb491,1,none⟩=some (.int .i64 a0_1)∧w'.cell? (ad496.add (((ji48)).toNat*2))=some (.int .i64 ((rd_T85 l2 (ji48)).f0))∧w'.cell? ⟨(ad496.add (((ji48)).toNat*2)).block,(ad496.add (((ji48)).toNat*2)).off+1,none⟩=some (.int .u8 ((rd_T85 l2 (ji48)).f1))) (ds:=[]) [(0,46),(2,48),(1,47),(3,49),(4,50),(5,0),(6,52),(7,53),(8,54),(10,56),(9,55),(11,57),(12,58),(13,59),(14,60),(15,61),(16,62),(17,63),(18,64),(19,65),(20,66),(21,67),(23,69),(22,68),(24,70),(25,71),(26,72),(27,73)] D2 rfl spec_RegeneratePiece.tab9 spec_RegeneratePiece.bits9 ⟨yk BK497 0,yk BK497 1,yk BK491 0,yk BK491 1,((HB.out.cell (World.block_lt_of_cell? w _ hw499_0)).trans hw499_0),((HB.out.cell (World.block_lt_of_cell? w _ hw499_1)).trans hw499_1)⟩ (fun hHeld HT_ HW_=>?_)
             generalize w57.drew=w58 at HO_10 HO_496000 BK491 BK492 BK495 BK497 HB hx499_0 hx499_1 hHeld ⊢
             refine rR ?_
             refine rO (N:=some 51) HT_ rfl rfl D2 D5 (fun K hK=>?_)
             refine goes_ Try.func84 D2 rfl #[.int .i64 ((rd_T85 l2 x41_2).f0), .int .i64 0, .int .i64 (wrap64 (a0_0 - 1))] D16 rfl rfl D8 ?_
             with_reducible refine (spec_l1In.calls ((rd_T85 l2 x41_2).f0) 0 (wrap64 (a0_0 - 1)) true _ A34.out).mono ?_
             rintro e w' ⟨rfl,⟨nd,rfl⟩⟩
             refine ⟨_,rfl,?_⟩
             refine hK.out _ _ ⟨yk BK497 0,yk BK497 1,yk BK491 0,yk BK491 1,((HB.out.cell (World.block_lt_of_cell? w _ hw499_0)).trans hw499_0),((HB.out.cell (World.block_lt_of_cell? w _ hw499_1)).trans hw499_1)⟩ (fun hHeld=>?_)
             clear hK K
             refine rN (nA 51) ?_
             refine rR ?_
             refine rD HT_ D2 ?_
             have hnb59:=NB492_491.out
             have hnc59:=NB491_492.out
             have hnb60:=NB492_495.out
             have hnc60:=NB495_492.out
             obtain ⟨hcz61_0,hcz61_1,hfz61_0,hfz61_1⟩:=yk2 BK492
             try go_wp2
             refine bodyPost_ret (results_ct rfl _ _ gb492 76 #[.int .i64 0, .slice none 0 0] (0,0) _ rfl D70 Try.underlying76 rfl D2) rfl ?_
             exact ⟨_,by first|rfl|(simp [errW_none,errW_some] <;> rfl)|(simp only [← hji48];first|rfl|(simp [errW_none,errW_some] <;> rfl))|(simp [*,errW_none,errW_some] <;> rfl),D10,yW HB⟩
            rw [if_neg c51] at H
            have c51b0:decide (((rd_T85 l2 x41_2).f0)≤((rd_T85 l2 (ji48)).f0))=false:=decide_eq_false c51
            clear c51
            obtain ⟨t500,A62,H⟩:=yo H
            by_cases c63:x496000_2.length < 5864062014805
            ·rw [if_pos c63] at H
             have LMc63:=am c63
             clear c63
             generalize hy503:(x496000_2 ++ [t500]:List (List Int))=y503 at H
             have Ny503:=am hy503.symm
             clear hy503
             by_cases c64:x10_2.length < 140737488355328
             ·rw [if_pos c64] at H
              have LMc64:=am c64
              clear c64
              generalize hy506:(x10_2 ++ [(rd_T85 l2 x41_2).f1]:List Int)=y506 at H
              have Ny506:=am hy506.symm
              clear hy506
              have H':=am H
              clear H
              have p496:0≤(x41_2:Int):=od D0
              have q496:x41_2 < (l2.length:Int):=od D0
              obtain ⟨ad496,e496,hx496_0,hx496_1⟩:=at_T85 HR2.out x41_2 p496 q496
              cases e496
              replace hx496_0:=(HB.out.cell (World.block_lt_of_cell? w _ hx496_0)).trans hx496_0
              replace hx496_1:=(HB.out.cell (World.block_lt_of_cell? w _ hx496_1)).trans hx496_1
              replace p496:=eq_true p496
              replace q496:=eq_true q496
              try go_wp2_with (first|((with_reducible refine gD 12 ?_);(try (refine gate_guard D16 ?_;dsimp only));refine gB (cs:=#[.int .i64 0, .int .u8 0]) 85 ?_;intro gb497 hg w65 hbox hb;replace HO_10:=bR HO_10 hb;replace HO_496000:=oN HO_496000 hg hb;have BK497:=am (hbox);have GW497:=ye HB hg;replace HB:=yH HB hb;have NB491_497:=yl BK491 hg;have NB497_491:=yg BK491 hg;replace BK491:=yb BK491 hb;have NB492_497:=yl BK492 hg;have NB497_492:=yg BK492 hg;replace BK492:=yb BK492 hb;have NB495_497:=yl BK495 hg;have NB497_495:=yg BK495 hg;replace BK495:=yb BK495 hb;have GE497:=GW497;clear hb hbox hg;have hnb66:=NB497_491.out;have hnc66:=NB491_497.out;have hnb67:=NB497_492.out;have hnc67:=NB492_497.out;have hnb68:=NB497_495.out;have hnc68:=NB495_497.out;obtain ⟨hcz69_0,hcz69_1,hfz69_0,hfz69_1⟩:=yk2 BK497))
              generalize hw_:((w65.setCell ⟨gb497,0,none⟩ (.int .i64 ((rd_T85 l2 x41_2).f0))).setCell ⟨gb497,1,none⟩ (.int .u8 ((rd_T85 l2 x41_2).f1)))=w70
              replace HO_10:Aside0 (Kd.R (Kd.int .u8) 5 w70 w.heap.size (fun _=>True) u10 x10_2):=⟨D28⟩
              replace HO_496000:Aside0 (Kd.N (Kd.slice 5 (Kd.int .u8)) 24 w70 w.heap.size (fun k_=>some k_ ≠ (u10:Value).ownBlock∧k_ ≠ gb491∧k_ ≠ gb492∧k_ ≠ gb495∧k_ ≠ gb497) u496000 x496000_2):=⟨D18⟩
              replace BK491:Aside0 (w70.heap[gb491]? = some (.cells #[.int .i64 a0_0, .int .i64 a0_1] 30 (0,0))):=⟨by rw [← hw_];exact yF BK491⟩
              replace BK492:Aside0 (w70.heap[gb492]? = some (.cells #[.int .i64 x493000_2, .slice none 0 0] 76 (0,0))):=⟨by rw [← hw_];exact yF BK492⟩
              replace BK495:Aside0 (w70.heap[gb495]? = some (.cells #[u496000] 27 (0,0))):=⟨by rw [← hw_];exact yF BK495⟩
              replace BK497:Aside0 (w70.heap[gb497]? = some (.cells #[.int .i64 ((rd_T85 l2 x41_2).f0), .int .u8 ((rd_T85 l2 x41_2).f1)] 85 (0,0))):=⟨D35⟩
              replace HB:Aside0 (Below w.heap.size w w70):=⟨D69⟩
              clear hw_
              replace HO_10:=am (Kd.R_drew HO_10.out)
              replace HO_496000:=am (Kd.N_drew HO_496000.out)
              replace BK491:=am (qd BK491.out)
              replace BK492:=am (qd BK492.out)
              replace BK495:=am (qd BK495.out)
              replace BK497:=am (qd BK497.out)
              replace HB:=am (pd HB.out)
              have p499:0≤((ji48):Int):=od D0
              have q499:(ji48) < (l2.length:Int):=od D0
              obtain ⟨ad499,e499,hx499_0,hx499_1⟩:=at_T85 HR2.out (ji48) p499 q499
              have hw499_1:=hx499_1
              have hw499_0:=hx499_0
              obtain rfl:ad496=ad499:=(by injection e499)
              replace hx499_0:=(HB.out.cell (World.block_lt_of_cell? w _ hx499_0)).trans hx499_0
              replace hx499_1:=(HB.out.cell (World.block_lt_of_cell? w _ hx499_1)).trans hx499_1
              replace p499:=eq_true p499
              replace q499:=eq_true q499
              refine rS (n:=28) (S:=fun w'=>w'.cell? ⟨gb497,0,none⟩=some (.int .i64 ((rd_T85 l2 x41_2).f0))∧w'.cell? ⟨gb497,1,none⟩=some (.int .u8 ((rd_T85 l2 x41_2).f1))∧w'.cell? ⟨gb491,0,none⟩=some (.int .i64 a0_0)∧w'.cell? ⟨gb491,1,none⟩=some (.int .i64 a0_1)∧w'.cell? (ad496.add (((ji48)).toNat*2))=some (.int .i64 ((rd_T85 l2 (ji48)).f0))∧w'.cell? ⟨(ad496.add (((ji48)).toNat*2)).block,(ad496.add (((ji48)).toNat*2)).off+1,none⟩=some (.int .u8 ((rd_T85 l2 (ji48)).f1))) (ds:=[]) [(0,46),(2,48),(1,47),(3,49),(4,50),(5,0),(6,52),(7,53),(8,54),(10,56),(9,55),(11,57),(12,58),(13,59),(14,60),(15,61),(16,62),(17,63),(18,64),(19,65),(20,66),(21,67),(23,69),(22,68),(24,70),(25,71),(26,72),(27,73)] D2 rfl spec_RegeneratePiece.tab9 spec_RegeneratePiece.bits9 ⟨yk BK497 0,yk BK497 1,yk BK491 0,yk BK491 1,((HB.out.cell (World.block_lt_of_cell? w _ hw499_0)).trans hw499_0),((HB.out.cell (World.block_lt_of_cell? w _ hw499_1)).trans hw499_1)⟩ (fun hHeld HT_ HW_=>?_)
              generalize w70.drew=w71 at HO_10 HO_496000 BK491 BK492 BK495 BK497 HB hx499_0 hx499_1 hHeld ⊢
              refine rR ?_
              refine rO (N:=some 51) HT_ rfl rfl D2 D5 (fun K hK=>?_)
              refine goes_ Try.func84 D2 rfl #[.int .i64 ((rd_T85 l2 x41_2).f0), .int .i64 0, .int .i64 (wrap64 (a0_0 - 1))] D16 rfl rfl D8 ?_
              with_reducible refine (spec_l1In.calls ((rd_T85 l2 x41_2).f0) 0 (wrap64 (a0_0 - 1)) true _ A34.out).mono ?_
              rintro e w' ⟨rfl,⟨nd,rfl⟩⟩
              refine ⟨_,rfl,?_⟩
              refine hK.out _ _ ⟨yk BK497 0,yk BK497 1,yk BK491 0,yk BK491 1,((HB.out.cell (World.block_lt_of_cell? w _ hw499_0)).trans hw499_0),((HB.out.cell (World.block_lt_of_cell? w _ hw499_1)).trans hw499_1)⟩ (fun hHeld=>?_)
              clear hK K
              refine rN (nA 51) ?_
              refine rR ?_
              refine rD HT_ D2 ?_
              try go_wp2
              (try (rw [drewN_self w71];generalize hq_:World.drewN w71 _=w71;have n0_:Aside0 (Kd.R (Kd.int .u8) 5 w71 w.heap.size (fun _=>True) u10 x10_2):=⟨by rw [← hq_];exact (yR HO_10)⟩;have n1_:Aside0 (Kd.N (Kd.slice 5 (Kd.int .u8)) 24 w71 w.heap.size (fun k_=>some k_ ≠ (u10:Value).ownBlock∧k_ ≠ gb491∧k_ ≠ gb492∧k_ ≠ gb495∧k_ ≠ gb497) u496000 x496000_2):=⟨by rw [← hq_];exact (yN HO_496000)⟩;have n2_:Aside0 (w71.heap[gb491]? = some (.cells #[.int .i64 a0_0, .int .i64 a0_1] 30 (0,0))):=⟨by rw [← hq_];exact (yB BK491)⟩;have n3_:Aside0 (w71.heap[gb492]? = some (.cells #[.int .i64 x493000_2, .slice none 0 0] 76 (0,0))):=⟨by rw [← hq_];exact (yB BK492)⟩;have n4_:Aside0 (w71.heap[gb495]? = some (.cells #[u496000] 27 (0,0))):=⟨by rw [← hq_];exact (yB BK495)⟩;have n5_:Aside0 (w71.heap[gb497]? = some (.cells #[.int .i64 ((rd_T85 l2 x41_2).f0), .int .u8 ((rd_T85 l2 x41_2).f1)] 85 (0,0))):=⟨by rw [← hq_];exact (yB BK497)⟩;have n6_:Aside0 (Below w.heap.size w w71):=⟨by rw [← hq_];exact (yW HB)⟩;clear HO_10 HO_496000 BK491 BK492 BK495 BK497 HB hq_;have HO_10:=n0_;have HO_496000:=n1_;have BK491:=n2_;have BK492:=n3_;have BK495:=n4_;have BK497:=n5_;have HB:=n6_;clear n0_ n1_ n2_ n3_ n4_ n5_ n6_))
              replace HO_10:=am (Kd.R_drew HO_10.out)
              replace HO_496000:=am (Kd.N_drew HO_496000.out)
              replace BK491:=am (qd BK491.out)
              replace BK492:=am (qd BK492.out)
              replace BK495:=am (qd BK495.out)
              replace BK497:=am (qd BK497.out)
              replace HB:=am (pd HB.out)
              refine rS (n:=10) (S:=fun w'=>w'.cell? ⟨gb495,0,none⟩=some (u496000)∧w'.cell? ⟨gb491,0,none⟩=some (.int .i64 a0_0)∧w'.cell? ⟨gb491,1,none⟩=some (.int .i64 a0_1)∧w'.cell? ⟨gb497,0,none⟩=some (.int .i64 ((rd_T85 l2 x41_2).f0))∧w'.cell? ⟨gb497,1,none⟩=some (.int .u8 ((rd_T85 l2 x41_2).f1))) (ds:=[9]) [(0,75),(3,78),(1,76),(2,77),(4,79),(5,0),(6,0),(7,0),(8,83),(9,0)] D2 rfl spec_RegeneratePiece.tab11 spec_RegeneratePiece.bits11 ⟨yk BK495 0,yk BK491 0,yk BK491 1,yk BK497 0,yk BK497 1⟩ (fun hHeld HT_ HW_=>?_)
              generalize w71.drew=w72 at HO_10 HO_496000 BK491 BK492 BK495 BK497 HB hHeld ⊢
              refine rR ?_
              refine rO (N:=some 80) HT_ rfl rfl D2 D5 (fun K hK=>?_)
              refine goes_ Try.func121 D2 rfl #[.agg #[.int .i64 a0_0, .int .i64 a0_1], .int .i64 ((rd_T85 l2 x41_2).f0)] D16 rfl rfl D8 ?_
              with_reducible refine (spec_l5Row.calls k2 a0_0 a0_1 ((rd_T85 l2 x41_2).f0) t500 _ A62.out).mono ?_
              rintro e w73 ⟨v501,rfl,ho0,hb⟩
              refine ⟨_,rfl,?_⟩
              replace HO_496000:=eN HO_496000 (Kd.R_base ho0) hb
              have HO502:=am (Kd.R_lower (Kd.R_new' ho0 (Kd.R_lt (yR HO_10))) (pz (yW HB)))
              replace HO_10:=eR HO_10 (Kd.R_base ho0) hb
              replace BK491:=yb BK491 hb
              replace BK492:=yb BK492 hb
              replace BK495:=yb BK495 hb
              replace BK497:=yb BK497 hb
              replace HB:=yH HB hb
              (try clear hb)
              (try clear hb2)
              (try clear hk)
              (try clear hi)
              (try clear ho0)
              obtain ⟨Ao75,co75,eo75⟩:=Kd.R_slice HO502.out
              (first|subst eo75|(injection eo75 with f1_ f2_ f3_;have f4_:=f1_.symm;have f5_:=f3_.symm;clear f1_ f2_ f3_;subst f4_;subst f5_))
              refine hK.out _ _ ⟨yk BK495 0,yk BK491 0,yk BK491 1,yk BK497 0,yk BK497 1⟩ (fun hHeld=>?_)
              clear hK K
              refine rN (nA 80) ?_
              refine rO (N:=some 81) HT_ rfl rfl D2 D5 (fun K hK=>?_)
              refine value_ (w1:=?_) (v:=?_) D16 rfl ?_ ?_
              rotate_left 2
              ·go_simp
               constructor
               ·rfl
               rfl
              refine hK.out _ _ ⟨(blk_cell (qa BK495.out _) 0).trans rfl,(blk_cell (qa BK491.out _) 0).trans rfl,(blk_cell (qa BK491.out _) 1).trans rfl,(blk_cell (qa BK497.out _) 0).trans rfl,(blk_cell (qa BK497.out _) 1).trans rfl⟩ (fun hHeld=>?_)
              clear hK K
              refine rN (nA 81) ?_
              refine rO (N:=some 82) HT_ rfl rfl D2 D5 (fun K hK=>?_)
              refine Kd.N_append_step (Kd.slice 5 (Kd.int .u8)) (w0:=w) w.heap.size D16 (.tmp 76) (.tmp 81) 25 24 (.slice none 0 0) 24 rfl Try.underlying25 info24 rfl D5 D13 u496000 x496000_2 t500 [.slice Ao75 t500.length co75] (fun k_=>some k_ ≠ (u10:Value).ownBlock∧k_ ≠ gb491∧k_ ≠ gb492∧k_ ≠ gb495∧k_ ≠ gb497) (fun k_=>((fun k_=>some k_ ≠ (u10:Value).ownBlock∧k_ ≠ gb491∧k_ ≠ gb492∧k_ ≠ gb495∧k_ ≠ gb497)) k_∧some k_ ≠ (u496000:Value).ownBlock) rfl rfl ?aP (fun _ hk=>hk) ?aF ?aO ?aB ?aS ?aL ?_
              (case aP=>exact (Kd.FK_slice_mk (Kd.R_reads' (Kd.R_mono (ok':=(fun k_=>((fun k_=>some k_ ≠ (u10:Value).ownBlock∧k_ ≠ gb491∧k_ ≠ gb492∧k_ ≠ gb495∧k_ ≠ gb497)) k_∧some k_ ≠ (u496000:Value).ownBlock)) (Kd.R_types (Kd.R_types (Kd.R_types (Kd.R_types (Kd.R_apart' (HO502.out) (Kd.N_typed HO_496000.out) D5) BK491.out D5) BK492.out D5) BK495.out D5) BK497.out D5) (fun k_ hk=>⟨⟨hk.1.1.1.1.1.2,⟨hk.1.1.1.2,⟨hk.1.1.2,⟨hk.1.2,hk.2⟩⟩⟩⟩,hk.1.1.1.1.2⟩))).2.1 (Kd.R_F (Kd.R_mono (ok':=(fun k_=>((fun k_=>some k_ ≠ (u10:Value).ownBlock∧k_ ≠ gb491∧k_ ≠ gb492∧k_ ≠ gb495∧k_ ≠ gb497)) k_∧some k_ ≠ (u496000:Value).ownBlock)) (Kd.R_types (Kd.R_types (Kd.R_types (Kd.R_types (Kd.R_apart' (HO502.out) (Kd.N_typed HO_496000.out) D5) BK491.out D5) BK492.out D5) BK495.out D5) BK497.out D5) (fun k_ hk=>⟨⟨hk.1.1.1.1.1.2,⟨hk.1.1.1.2,⟨hk.1.1.2,⟨hk.1.2,hk.2⟩⟩⟩⟩,hk.1.1.1.1.2⟩)))))
              (case aB=>exact (yW HB))
              (case aF=>exact (fun k_ hk=>⟨Kd.fresh' (Kd.R_lt (yR HO_10)) k_ hk,yz BK491 k_ hk,yz BK492 k_ hk,yz BK495 k_ hk,yz BK497 k_ hk⟩))
              (case aO=>exact D119)
              (case aS=>exact (pz (yW HB)))
              (case aL=>have:=LMc63.out;omega)
              intro v504 w74 ho hb hg hat
              rw [← Ny503.out] at ho
              have n0_:=am (Kd.R_over' (yR HO_10) (Kd.N_typed (yN HO_496000)) D5 hg)
              have n1_:=am (blk_grown (g:=gb491) (o:=.cells #[.int .i64 a0_0, .int .i64 a0_1] 30 (0,0)) (yB BK491) hg (Kd.N_ne HO_496000.out BK491.out D5))
              have n2_:=am (blk_grown (g:=gb492) (o:=.cells #[.int .i64 x493000_2, .slice none 0 0] 76 (0,0)) (yB BK492) hg (Kd.N_ne HO_496000.out BK492.out D5))
              have n3_:=am (blk_grown (g:=gb495) (o:=.cells #[u496000] 27 (0,0)) (yB BK495) hg (Kd.N_ne HO_496000.out BK495.out D5))
              have n4_:=am (blk_grown (g:=gb497) (o:=.cells #[.int .i64 ((rd_T85 l2 x41_2).f0), .int .u8 ((rd_T85 l2 x41_2).f1)] 85 (0,0)) (yB BK497) hg (Kd.N_ne HO_496000.out BK497.out D5))
              have n5_:=am (hb)
              have n6_:=am (ho)
              clear HO_10
              clear BK491
              clear BK492
              clear BK495
              clear BK497
              clear HB
              clear HO_496000
              clear HO502
              have HO_10:=n0_
              have BK491:=n1_
              have BK492:=n2_
              have BK495:=n3_
              have BK497:=n4_
              have HB:=n5_
              have HO505:=n6_
              clear n0_ n1_ n2_ n3_ n4_ n5_ n6_
              clear ho hb hg hat
              obtain ⟨Ao76,co76,eo76⟩:=Kd.N_slice HO505.out
              (first|subst eo76|(injection eo76 with f1_ f2_ f3_;have f4_:=f1_.symm;have f5_:=f3_.symm;clear f1_ f2_ f3_;subst f4_;subst f5_))
              refine hK.out _ _ ⟨yk BK495 0,yk BK491 0,yk BK491 1,yk BK497 0,yk BK497 1⟩ (fun hHeld=>?_)
              clear hK K
              refine rN (nA 82) ?_
              refine rR ?_
              refine rL (N:=none) HT_ rfl rfl D2 D5 (fun K hK=>?_)
              have hs77:w74.cell? ⟨gb495,0,none⟩=some (u496000):=(blk_cell BK495.out 0).trans rfl
              have hfs77:=blk_frozen BK495.out 0
              have hns77_0:=NB491_495.out
              have hns77_1:=NB492_495.out
              have hns77_3:=NB497_495.out
              have hms77_0:=NB495_491.out
              have hms77_1:=NB495_492.out
              have hms77_3:=NB495_497.out
              refine skip_ (w1:=?_) D16 rfl ?_ ?_
              rotate_left
              ·go_simp
               rfl
              refine hK.out _ _ ?_
              clear hK K
              refine rD HT_ D2 ?_
              obtain ⟨hcz78_0,hcz78_1,hfz78_0,hfz78_1⟩:=yk2 BK497
              try go_wp2_with (first|((with_reducible refine gate_builtin (b:=.append) (xs:=#[.tmp 84, .tmp 87]) rfl ?_);(try (refine gate_guard D16 ?_;dsimp only));at_builtin;refine Kd.R_append (Kd.int .u8) (w0:=w) w.heap.size rfl (.tmp 84) (.tmp 87) 24 5 (.int .u8 0) 1 rfl Try.underlying24 info5 rfl D5 D13 u10 x10_2 ((rd_T85 l2 x41_2).f1) [.int .u8 ((rd_T85 l2 x41_2).f1)] (fun _=>True) (fun _=>False) rfl D33 D98 (fun _ hk=>hk.elim) D43 (by exact (by refine sR ?_;exact Kd.R_mono (Kd.R_far (p:=⟨gb495,0,none⟩) (Kd.R_types HO_10.out BK495.out D5) (fun _ hk=>hk.2) (.slice Ao76 y503.length co76)) (fun _ hk=>trivial))) D64 D47 (by have:=LMc64.out;omega) ?_;intro v507 w79 ho hb hg hat;rw [← Ny506.out] at ho;have n0_:=am (blk_grown (g:=gb491) (o:=.cells #[.int .i64 a0_0, .int .i64 a0_1] 30 (0,0)) (yF BK491) hg (Kd.R_ne HO_10.out BK491.out D5));have n1_:=am (blk_grown (g:=gb492) (o:=.cells #[.int .i64 x493000_2, .slice none 0 0] 76 (0,0)) (yF BK492) hg (Kd.R_ne HO_10.out BK492.out D5));have n2_:=am (blk_grown (g:=gb495) (o:=.cells #[.slice Ao76 y503.length co76] 27 (0,0)) (by refine sB ?_;refine blk_put (cs:=#[u496000]) ?_ 0 _ rfl;exact yB BK495) hg (Kd.R_ne HO_10.out BK495.out D5));have n3_:=am (blk_grown (g:=gb497) (o:=.cells #[.int .i64 ((rd_T85 l2 x41_2).f0), .int .u8 ((rd_T85 l2 x41_2).f1)] 85 (0,0)) (yF BK497) hg (Kd.R_ne HO_10.out BK497.out D5));have n4_:=am (Kd.N_afterv (ok:=(fun k_=>k_ ≠ gb491∧k_ ≠ gb492∧k_ ≠ gb495∧k_ ≠ gb497)) (by refine sN ?_;exact Kd.N_mono (Kd.N_far (p:=⟨gb495,0,none⟩) (Kd.N_mono HO505.out (fun k_ hk=>(⟨hk,hk.2.2.2.1⟩:_∧k_ ≠ gb495))) (fun _ hk=>hk.2) (.slice Ao76 y503.length co76)) (fun _ hk=>⟨⟨hk.1.2.1,⟨hk.1.2.2.1,⟨hk.1.2.2.2.1,hk.1.2.2.2.2⟩⟩⟩,hk.1.1⟩)) hg hat);have n5_:=am (hb);have n6_:=am (ho);clear BK491 BK492 BK495 BK497 HO505 HB HO_10;have BK491:=n0_;have BK492:=n1_;have BK495:=n2_;have BK497:=n3_;have HO505:=n4_;have HB:=n5_;have HO508:=n6_;clear n0_ n1_ n2_ n3_ n4_ n5_ n6_ ho hb hg hat))
              go_roundg k2
              case measure=>have:=HJ3.out;have:=HK2.out;omega
              case rel=>exact ⟨(y506),(wrap64 (x41_2+1)),(x493000_2),(y503),(.slice Ao76 y503.length co76),D1,H',⟨by have:=HJ3.out;have:=HK2.out;omega⟩,⟨yR HO508⟩,⟨by refine sN ?_;exact Kd.N_mono HO505.out (fun _ hk=>⟨hk.2,⟨hk.1.1,⟨hk.1.2.1,hk.1.2.2.1⟩⟩⟩)⟩,⟨yB BK491⟩,⟨yB BK492⟩,⟨yB BK495⟩,⟨yW HB⟩⟩
             rw [if_neg c64] at H
             exact absurd H D44
            rw [if_neg c63] at H
            exact absurd H D44
           rw [if_neg c50] at H
           exact absurd H D44
          rw [if_neg c49] at H
          exact absurd H D44
         rw [if_neg c47] at H
         have c47b0:decide (0 < x41_2)=false:=decide_eq_false c47
         clear c47
         obtain ⟨t509,A80,H⟩:=yo H
         by_cases c81:x496000_2.length < 5864062014805
         ·rw [if_pos c81] at H
          have LMc81:=am c81
          clear c81
          generalize hy512:(x496000_2 ++ [t509]:List (List Int))=y512 at H
          have Ny512:=am hy512.symm
          clear hy512
          by_cases c82:x10_2.length < 140737488355328
          ·rw [if_pos c82] at H
           have LMc82:=am c82
           clear c82
           generalize hy515:(x10_2 ++ [(rd_T85 l2 x41_2).f1]:List Int)=y515 at H
           have Ny515:=am hy515.symm
           clear hy515
           have H':=am H
           clear H
           have p496:0≤(x41_2:Int):=od D0
           have q496:x41_2 < (l2.length:Int):=od D0
           obtain ⟨ad496,e496,hx496_0,hx496_1⟩:=at_T85 HR2.out x41_2 p496 q496
           cases e496
           replace hx496_0:=(HB.out.cell (World.block_lt_of_cell? w _ hx496_0)).trans hx496_0
           replace hx496_1:=(HB.out.cell (World.block_lt_of_cell? w _ hx496_1)).trans hx496_1
           replace p496:=eq_true p496
           replace q496:=eq_true q496
           try go_wp2_with (first|((with_reducible refine gD 12 ?_);(try (refine gate_guard D16 ?_;dsimp only));refine gB (cs:=#[.int .i64 0, .int .u8 0]) 85 ?_;intro gb497 hg w83 hbox hb;replace HO_10:=bR HO_10 hb;replace HO_496000:=oN HO_496000 hg hb;have BK497:=am (hbox);have GW497:=ye HB hg;replace HB:=yH HB hb;have NB491_497:=yl BK491 hg;have NB497_491:=yg BK491 hg;replace BK491:=yb BK491 hb;have NB492_497:=yl BK492 hg;have NB497_492:=yg BK492 hg;replace BK492:=yb BK492 hb;have NB495_497:=yl BK495 hg;have NB497_495:=yg BK495 hg;replace BK495:=yb BK495 hb;have GE497:=GW497;clear hb hbox hg;have hnb84:=NB497_491.out;have hnc84:=NB491_497.out;have hnb85:=NB497_492.out;have hnc85:=NB492_497.out;have hnb86:=NB497_495.out;have hnc86:=NB495_497.out;obtain ⟨hcz87_0,hcz87_1,hfz87_0,hfz87_1⟩:=yk2 BK497))
           generalize hw_:((w83.setCell ⟨gb497,0,none⟩ (.int .i64 ((rd_T85 l2 x41_2).f0))).setCell ⟨gb497,1,none⟩ (.int .u8 ((rd_T85 l2 x41_2).f1)))=w88
           replace HO_10:Aside0 (Kd.R (Kd.int .u8) 5 w88 w.heap.size (fun _=>True) u10 x10_2):=⟨D28⟩
           replace HO_496000:Aside0 (Kd.N (Kd.slice 5 (Kd.int .u8)) 24 w88 w.heap.size (fun k_=>some k_ ≠ (u10:Value).ownBlock∧k_ ≠ gb491∧k_ ≠ gb492∧k_ ≠ gb495∧k_ ≠ gb497) u496000 x496000_2):=⟨D18⟩
           replace BK491:Aside0 (w88.heap[gb491]? = some (.cells #[.int .i64 a0_0, .int .i64 a0_1] 30 (0,0))):=⟨by rw [← hw_];exact yF BK491⟩
           replace BK492:Aside0 (w88.heap[gb492]? = some (.cells #[.int .i64 x493000_2, .slice none 0 0] 76 (0,0))):=⟨by rw [← hw_];exact yF BK492⟩
           replace BK495:Aside0 (w88.heap[gb495]? = some (.cells #[u496000] 27 (0,0))):=⟨by rw [← hw_];exact yF BK495⟩
           replace BK497:Aside0 (w88.heap[gb497]? = some (.cells #[.int .i64 ((rd_T85 l2 x41_2).f0), .int .u8 ((rd_T85 l2 x41_2).f1)] 85 (0,0))):=⟨D35⟩
           replace HB:Aside0 (Below w.heap.size w w88):=⟨D69⟩
           clear hw_
           replace HO_10:=am (Kd.R_drew HO_10.out)
           replace HO_496000:=am (Kd.N_drew HO_496000.out)
           replace BK491:=am (qd BK491.out)
           replace BK492:=am (qd BK492.out)
           replace BK495:=am (qd BK495.out)
           replace BK497:=am (qd BK497.out)
           replace HB:=am (pd HB.out)
           refine rS (n:=28) (S:=fun w'=>w'.cell? ⟨gb497,0,none⟩=some (.int .i64 ((rd_T85 l2 x41_2).f0))∧w'.cell? ⟨gb497,1,none⟩=some (.int .u8 ((rd_T85 l2 x41_2).f1))∧w'.cell? ⟨gb491,0,none⟩=some (.int .i64 a0_0)∧w'.cell? ⟨gb491,1,none⟩=some (.int .i64 a0_1)) (ds:=[]) [(0,46),(2,48),(1,47),(3,49),(4,50),(5,0),(6,52),(7,53),(8,54),(10,56),(9,55),(11,57),(12,58),(13,59),(14,60),(15,61),(16,62),(17,63),(18,64),(19,65),(20,66),(21,67),(22,68),(23,69),(24,70),(25,71),(26,72),(27,73)] D2 rfl spec_RegeneratePiece.tab9 spec_RegeneratePiece.bits9 ⟨yk BK497 0,yk BK497 1,yk BK491 0,yk BK491 1⟩ (fun hHeld HT_ HW_=>?_)
           generalize w88.drew=w89 at HO_10 HO_496000 BK491 BK492 BK495 BK497 HB hHeld ⊢
           refine rR ?_
           refine rO (N:=some 51) HT_ rfl rfl D2 D5 (fun K hK=>?_)
           refine goes_ Try.func84 D2 rfl #[.int .i64 ((rd_T85 l2 x41_2).f0), .int .i64 0, .int .i64 (wrap64 (a0_0 - 1))] D16 rfl rfl D8 ?_
           with_reducible refine (spec_l1In.calls ((rd_T85 l2 x41_2).f0) 0 (wrap64 (a0_0 - 1)) true _ A34.out).mono ?_
           rintro e w' ⟨rfl,⟨nd,rfl⟩⟩
           refine ⟨_,rfl,?_⟩
           refine hK.out _ _ ⟨yk BK497 0,yk BK497 1,yk BK491 0,yk BK491 1⟩ (fun hHeld=>?_)
           clear hK K
           refine rN (nA 51) ?_
           refine rR ?_
           refine rD HT_ D2 ?_
           try go_wp2
           (try (rw [drewN_self w89];generalize hq_:World.drewN w89 _=w89;have n0_:Aside0 (Kd.R (Kd.int .u8) 5 w89 w.heap.size (fun _=>True) u10 x10_2):=⟨by rw [← hq_];exact (yR HO_10)⟩;have n1_:Aside0 (Kd.N (Kd.slice 5 (Kd.int .u8)) 24 w89 w.heap.size (fun k_=>some k_ ≠ (u10:Value).ownBlock∧k_ ≠ gb491∧k_ ≠ gb492∧k_ ≠ gb495∧k_ ≠ gb497) u496000 x496000_2):=⟨by rw [← hq_];exact (yN HO_496000)⟩;have n2_:Aside0 (w89.heap[gb491]? = some (.cells #[.int .i64 a0_0, .int .i64 a0_1] 30 (0,0))):=⟨by rw [← hq_];exact (yB BK491)⟩;have n3_:Aside0 (w89.heap[gb492]? = some (.cells #[.int .i64 x493000_2, .slice none 0 0] 76 (0,0))):=⟨by rw [← hq_];exact (yB BK492)⟩;have n4_:Aside0 (w89.heap[gb495]? = some (.cells #[u496000] 27 (0,0))):=⟨by rw [← hq_];exact (yB BK495)⟩;have n5_:Aside0 (w89.heap[gb497]? = some (.cells #[.int .i64 ((rd_T85 l2 x41_2).f0), .int .u8 ((rd_T85 l2 x41_2).f1)] 85 (0,0))):=⟨by rw [← hq_];exact (yB BK497)⟩;have n6_:Aside0 (Below w.heap.size w w89):=⟨by rw [← hq_];exact (yW HB)⟩;clear HO_10 HO_496000 BK491 BK492 BK495 BK497 HB hq_;have HO_10:=n0_;have HO_496000:=n1_;have BK491:=n2_;have BK492:=n3_;have BK495:=n4_;have BK497:=n5_;have HB:=n6_;clear n0_ n1_ n2_ n3_ n4_ n5_ n6_))
           replace HO_10:=am (Kd.R_drew HO_10.out)
           replace HO_496000:=am (Kd.N_drew HO_496000.out)
           replace BK491:=am (qd BK491.out)
           replace BK492:=am (qd BK492.out)
           replace BK495:=am (qd BK495.out)
           replace BK497:=am (qd BK497.out)
           replace HB:=am (pd HB.out)
           refine rS (n:=10) (S:=fun w'=>w'.cell? ⟨gb495,0,none⟩=some (u496000)∧w'.cell? ⟨gb491,0,none⟩=some (.int .i64 a0_0)∧w'.cell? ⟨gb491,1,none⟩=some (.int .i64 a0_1)∧w'.cell? ⟨gb497,0,none⟩=some (.int .i64 ((rd_T85 l2 x41_2).f0))∧w'.cell? ⟨gb497,1,none⟩=some (.int .u8 ((rd_T85 l2 x41_2).f1))) (ds:=[9]) [(0,75),(3,78),(1,76),(2,77),(4,79),(5,0),(6,0),(7,0),(8,83),(9,0)] D2 rfl spec_RegeneratePiece.tab11 spec_RegeneratePiece.bits11 ⟨yk BK495 0,yk BK491 0,yk BK491 1,yk BK497 0,yk BK497 1⟩ (fun hHeld HT_ HW_=>?_)
           generalize w89.drew=w90 at HO_10 HO_496000 BK491 BK492 BK495 BK497 HB hHeld ⊢
           refine rR ?_
           refine rO (N:=some 80) HT_ rfl rfl D2 D5 (fun K hK=>?_)
           refine goes_ Try.func121 D2 rfl #[.agg #[.int .i64 a0_0, .int .i64 a0_1], .int .i64 ((rd_T85 l2 x41_2).f0)] D16 rfl rfl D8 ?_
           with_reducible refine (spec_l5Row.calls k2 a0_0 a0_1 ((rd_T85 l2 x41_2).f0) t509 _ A80.out).mono ?_
           rintro e w91 ⟨v510,rfl,ho0,hb⟩
           refine ⟨_,rfl,?_⟩
           replace HO_496000:=eN HO_496000 (Kd.R_base ho0) hb
           have HO511:=am (Kd.R_lower (Kd.R_new' ho0 (Kd.R_lt (yR HO_10))) (pz (yW HB)))
           replace HO_10:=eR HO_10 (Kd.R_base ho0) hb
           replace BK491:=yb BK491 hb
           replace BK492:=yb BK492 hb
           replace BK495:=yb BK495 hb
           replace BK497:=yb BK497 hb
           replace HB:=yH HB hb
           (try clear hb)
           (try clear hb2)
           (try clear hk)
           (try clear hi)
           (try clear ho0)
           obtain ⟨Ao93,co93,eo93⟩:=Kd.R_slice HO511.out
           (first|subst eo93|(injection eo93 with f1_ f2_ f3_;have f4_:=f1_.symm;have f5_:=f3_.symm;clear f1_ f2_ f3_;subst f4_;subst f5_))
           refine hK.out _ _ ⟨yk BK495 0,yk BK491 0,yk BK491 1,yk BK497 0,yk BK497 1⟩ (fun hHeld=>?_)
           clear hK K
           refine rN (nA 80) ?_
           refine rO (N:=some 81) HT_ rfl rfl D2 D5 (fun K hK=>?_)
           refine value_ (w1:=?_) (v:=?_) D16 rfl ?_ ?_
           rotate_left 2
           ·go_simp
            constructor
            ·rfl
            rfl
           refine hK.out _ _ ⟨(blk_cell (qa BK495.out _) 0).trans rfl,(blk_cell (qa BK491.out _) 0).trans rfl,(blk_cell (qa BK491.out _) 1).trans rfl,(blk_cell (qa BK497.out _) 0).trans rfl,(blk_cell (qa BK497.out _) 1).trans rfl⟩ (fun hHeld=>?_)
           clear hK K
           refine rN (nA 81) ?_
           refine rO (N:=some 82) HT_ rfl rfl D2 D5 (fun K hK=>?_)
           refine Kd.N_append_step (Kd.slice 5 (Kd.int .u8)) (w0:=w) w.heap.size D16 (.tmp 76) (.tmp 81) 25 24 (.slice none 0 0) 24 rfl Try.underlying25 info24 rfl D5 D13 u496000 x496000_2 t509 [.slice Ao93 t509.length co93] (fun k_=>some k_ ≠ (u10:Value).ownBlock∧k_ ≠ gb491∧k_ ≠ gb492∧k_ ≠ gb495∧k_ ≠ gb497) (fun k_=>((fun k_=>some k_ ≠ (u10:Value).ownBlock∧k_ ≠ gb491∧k_ ≠ gb492∧k_ ≠ gb495∧k_ ≠ gb497)) k_∧some k_ ≠ (u496000:Value).ownBlock) rfl rfl ?aP (fun _ hk=>hk) ?aF ?aO ?aB ?aS ?aL ?_
           (case aP=>exact (Kd.FK_slice_mk (Kd.R_reads' (Kd.R_mono (ok':=(fun k_=>((fun k_=>some k_ ≠ (u10:Value).ownBlock∧k_ ≠ gb491∧k_ ≠ gb492∧k_ ≠ gb495∧k_ ≠ gb497)) k_∧some k_ ≠ (u496000:Value).ownBlock)) (Kd.R_types (Kd.R_types (Kd.R_types (Kd.R_types (Kd.R_apart' (HO511.out) (Kd.N_typed HO_496000.out) D5) BK491.out D5) BK492.out D5) BK495.out D5) BK497.out D5) (fun k_ hk=>⟨⟨hk.1.1.1.1.1.2,⟨hk.1.1.1.2,⟨hk.1.1.2,⟨hk.1.2,hk.2⟩⟩⟩⟩,hk.1.1.1.1.2⟩))).2.1 (Kd.R_F (Kd.R_mono (ok':=(fun k_=>((fun k_=>some k_ ≠ (u10:Value).ownBlock∧k_ ≠ gb491∧k_ ≠ gb492∧k_ ≠ gb495∧k_ ≠ gb497)) k_∧some k_ ≠ (u496000:Value).ownBlock)) (Kd.R_types (Kd.R_types (Kd.R_types (Kd.R_types (Kd.R_apart' (HO511.out) (Kd.N_typed HO_496000.out) D5) BK491.out D5) BK492.out D5) BK495.out D5) BK497.out D5) (fun k_ hk=>⟨⟨hk.1.1.1.1.1.2,⟨hk.1.1.1.2,⟨hk.1.1.2,⟨hk.1.2,hk.2⟩⟩⟩⟩,hk.1.1.1.1.2⟩)))))
           (case aB=>exact (yW HB))
           (case aF=>exact (fun k_ hk=>⟨Kd.fresh' (Kd.R_lt (yR HO_10)) k_ hk,yz BK491 k_ hk,yz BK492 k_ hk,yz BK495 k_ hk,yz BK497 k_ hk⟩))
           (case aO=>exact D119)
           (case aS=>exact (pz (yW HB)))
           (case aL=>have:=LMc81.out;omega)
           intro v513 w92 ho hb hg hat
           rw [← Ny512.out] at ho
           have n0_:=am (Kd.R_over' (yR HO_10) (Kd.N_typed (yN HO_496000)) D5 hg)
           have n1_:=am (blk_grown (g:=gb491) (o:=.cells #[.int .i64 a0_0, .int .i64 a0_1] 30 (0,0)) (yB BK491) hg (Kd.N_ne HO_496000.out BK491.out D5))
           have n2_:=am (blk_grown (g:=gb492) (o:=.cells #[.int .i64 x493000_2, .slice none 0 0] 76 (0,0)) (yB BK492) hg (Kd.N_ne HO_496000.out BK492.out D5))
           have n3_:=am (blk_grown (g:=gb495) (o:=.cells #[u496000] 27 (0,0)) (yB BK495) hg (Kd.N_ne HO_496000.out BK495.out D5))
           have n4_:=am (blk_grown (g:=gb497) (o:=.cells #[.int .i64 ((rd_T85 l2 x41_2).f0), .int .u8 ((rd_T85 l2 x41_2).f1)] 85 (0,0)) (yB BK497) hg (Kd.N_ne HO_496000.out BK497.out D5))
           have n5_:=am (hb)
           have n6_:=am (ho)
           clear HO_10
           clear BK491
           clear BK492
           clear BK495
           clear BK497
           clear HB
           clear HO_496000
           clear HO511
           have HO_10:=n0_
           have BK491:=n1_
           have BK492:=n2_
           have BK495:=n3_
           have BK497:=n4_
           have HB:=n5_
           have HO514:=n6_
           clear n0_ n1_ n2_ n3_ n4_ n5_ n6_
           clear ho hb hg hat
           obtain ⟨Ao94,co94,eo94⟩:=Kd.N_slice HO514.out
           (first|subst eo94|(injection eo94 with f1_ f2_ f3_;have f4_:=f1_.symm;have f5_:=f3_.symm;clear f1_ f2_ f3_;subst f4_;subst f5_))
           refine hK.out _ _ ⟨yk BK495 0,yk BK491 0,yk BK491 1,yk BK497 0,yk BK497 1⟩ (fun hHeld=>?_)
           clear hK K
           refine rN (nA 82) ?_
           refine rR ?_
           refine rL (N:=none) HT_ rfl rfl D2 D5 (fun K hK=>?_)
           have hs95:w92.cell? ⟨gb495,0,none⟩=some (u496000):=(blk_cell BK495.out 0).trans rfl
           have hfs95:=blk_frozen BK495.out 0
           have hns95_0:=NB491_495.out
           have hns95_1:=NB492_495.out
           have hns95_3:=NB497_495.out
           have hms95_0:=NB495_491.out
           have hms95_1:=NB495_492.out
           have hms95_3:=NB495_497.out
           refine skip_ (w1:=?_) D16 rfl ?_ ?_
           rotate_left
           ·go_simp
            rfl
           refine hK.out _ _ ?_
           clear hK K
           refine rD HT_ D2 ?_
           obtain ⟨hcz96_0,hcz96_1,hfz96_0,hfz96_1⟩:=yk2 BK497
           try go_wp2_with (first|((with_reducible refine gate_builtin (b:=.append) (xs:=#[.tmp 84, .tmp 87]) rfl ?_);(try (refine gate_guard D16 ?_;dsimp only));at_builtin;refine Kd.R_append (Kd.int .u8) (w0:=w) w.heap.size rfl (.tmp 84) (.tmp 87) 24 5 (.int .u8 0) 1 rfl Try.underlying24 info5 rfl D5 D13 u10 x10_2 ((rd_T85 l2 x41_2).f1) [.int .u8 ((rd_T85 l2 x41_2).f1)] (fun _=>True) (fun _=>False) rfl D33 D98 (fun _ hk=>hk.elim) D43 (by exact (by refine sR ?_;exact Kd.R_mono (Kd.R_far (p:=⟨gb495,0,none⟩) (Kd.R_types HO_10.out BK495.out D5) (fun _ hk=>hk.2) (.slice Ao94 y512.length co94)) (fun _ hk=>trivial))) D64 D47 (by have:=LMc82.out;omega) ?_;intro v516 w97 ho hb hg hat;rw [← Ny515.out] at ho;have n0_:=am (blk_grown (g:=gb491) (o:=.cells #[.int .i64 a0_0, .int .i64 a0_1] 30 (0,0)) (yF BK491) hg (Kd.R_ne HO_10.out BK491.out D5));have n1_:=am (blk_grown (g:=gb492) (o:=.cells #[.int .i64 x493000_2, .slice none 0 0] 76 (0,0)) (yF BK492) hg (Kd.R_ne HO_10.out BK492.out D5));have n2_:=am (blk_grown (g:=gb495) (o:=.cells #[.slice Ao94 y512.length co94] 27 (0,0)) (by refine sB ?_;refine blk_put (cs:=#[u496000]) ?_ 0 _ rfl;exact yB BK495) hg (Kd.R_ne HO_10.out BK495.out D5));have n3_:=am (blk_grown (g:=gb497) (o:=.cells #[.int .i64 ((rd_T85 l2 x41_2).f0), .int .u8 ((rd_T85 l2 x41_2).f1)] 85 (0,0)) (yF BK497) hg (Kd.R_ne HO_10.out BK497.out D5));have n4_:=am (Kd.N_afterv (ok:=(fun k_=>k_ ≠ gb491∧k_ ≠ gb492∧k_ ≠ gb495∧k_ ≠ gb497)) (by refine sN ?_;exact Kd.N_mono (Kd.N_far (p:=⟨gb495,0,none⟩) (Kd.N_mono HO514.out (fun k_ hk=>(⟨hk,hk.2.2.2.1⟩:_∧k_ ≠ gb495))) (fun _ hk=>hk.2) (.slice Ao94 y512.length co94)) (fun _ hk=>⟨⟨hk.1.2.1,⟨hk.1.2.2.1,⟨hk.1.2.2.2.1,hk.1.2.2.2.2⟩⟩⟩,hk.1.1⟩)) hg hat);have n5_:=am (hb);have n6_:=am (ho);clear BK491 BK492 BK495 BK497 HO514 HB HO_10;have BK491:=n0_;have BK492:=n1_;have BK495:=n2_;have BK497:=n3_;have HO514:=n4_;have HB:=n5_;have HO517:=n6_;clear n0_ n1_ n2_ n3_ n4_ n5_ n6_ ho hb hg hat))
           go_roundg k2
           case measure=>have:=HJ3.out;have:=HK2.out;omega
           case rel=>exact ⟨(y515),(wrap64 (x41_2+1)),(x493000_2),(y512),(.slice Ao94 y512.length co94),D1,H',⟨by have:=HJ3.out;have:=HK2.out;omega⟩,⟨yR HO517⟩,⟨by refine sN ?_;exact Kd.N_mono HO514.out (fun _ hk=>⟨hk.2,⟨hk.1.1,⟨hk.1.2.1,hk.1.2.2.1⟩⟩⟩)⟩,⟨yB BK491⟩,⟨yB BK492⟩,⟨yB BK495⟩,⟨yW HB⟩⟩
          rw [if_neg c82] at H
          exact absurd H D44
         rw [if_neg c81] at H
         exact absurd H D44
        replace c35:=Bool.eq_false_iff.mpr c35
        subst c35
        replace H:=yn H
        simp only [Option.some.injEq,Prod.mk.injEq] at H
        obtain ⟨rfl,rfl,rfl⟩:=H
        have p496:0≤(x41_2:Int):=od D0
        have q496:x41_2 < (l2.length:Int):=od D0
        obtain ⟨ad496,e496,hx496_0,hx496_1⟩:=at_T85 HR2.out x41_2 p496 q496
        cases e496
        replace hx496_0:=(HB.out.cell (World.block_lt_of_cell? w _ hx496_0)).trans hx496_0
        replace hx496_1:=(HB.out.cell (World.block_lt_of_cell? w _ hx496_1)).trans hx496_1
        replace p496:=eq_true p496
        replace q496:=eq_true q496
        try go_wp2_with (first|((with_reducible refine gD 12 ?_);(try (refine gate_guard D16 ?_;dsimp only));refine gB (cs:=#[.int .i64 0, .int .u8 0]) 85 ?_;intro gb497 hg w98 hbox hb;replace HO_10:=bR HO_10 hb;replace HO_496000:=oN HO_496000 hg hb;have BK497:=am (hbox);have GW497:=ye HB hg;replace HB:=yH HB hb;have NB491_497:=yl BK491 hg;have NB497_491:=yg BK491 hg;replace BK491:=yb BK491 hb;have NB492_497:=yl BK492 hg;have NB497_492:=yg BK492 hg;replace BK492:=yb BK492 hb;have NB495_497:=yl BK495 hg;have NB497_495:=yg BK495 hg;replace BK495:=yb BK495 hb;have GE497:=GW497;clear hb hbox hg;have hnb99:=NB497_491.out;have hnc99:=NB491_497.out;have hnb100:=NB497_492.out;have hnc100:=NB492_497.out;have hnb101:=NB497_495.out;have hnc101:=NB495_497.out;obtain ⟨hcz102_0,hcz102_1,hfz102_0,hfz102_1⟩:=yk2 BK497))
        generalize hw_:((w98.setCell ⟨gb497,0,none⟩ (.int .i64 ((rd_T85 l2 x41_2).f0))).setCell ⟨gb497,1,none⟩ (.int .u8 ((rd_T85 l2 x41_2).f1)))=w103
        replace HO_10:Aside0 (Kd.R (Kd.int .u8) 5 w103 w.heap.size (fun _=>True) u10 x10_2):=⟨D28⟩
        replace HO_496000:Aside0 (Kd.N (Kd.slice 5 (Kd.int .u8)) 24 w103 w.heap.size (fun k_=>some k_ ≠ (u10:Value).ownBlock∧k_ ≠ gb491∧k_ ≠ gb492∧k_ ≠ gb495∧k_ ≠ gb497) u496000 x496000_2):=⟨D18⟩
        replace BK491:Aside0 (w103.heap[gb491]? = some (.cells #[.int .i64 a0_0, .int .i64 a0_1] 30 (0,0))):=⟨by rw [← hw_];exact yF BK491⟩
        replace BK492:Aside0 (w103.heap[gb492]? = some (.cells #[.int .i64 x493000_2, .slice none 0 0] 76 (0,0))):=⟨by rw [← hw_];exact yF BK492⟩
        replace BK495:Aside0 (w103.heap[gb495]? = some (.cells #[u496000] 27 (0,0))):=⟨by rw [← hw_];exact yF BK495⟩
        replace BK497:Aside0 (w103.heap[gb497]? = some (.cells #[.int .i64 ((rd_T85 l2 x41_2).f0), .int .u8 ((rd_T85 l2 x41_2).f1)] 85 (0,0))):=⟨D35⟩
        replace HB:Aside0 (Below w.heap.size w w103):=⟨D69⟩
        clear hw_
        replace HO_10:=am (Kd.R_drew HO_10.out)
        replace HO_496000:=am (Kd.N_drew HO_496000.out)
        replace BK491:=am (qd BK491.out)
        replace BK492:=am (qd BK492.out)
        replace BK495:=am (qd BK495.out)
        replace BK497:=am (qd BK497.out)
        replace HB:=am (pd HB.out)
        refine rS (n:=28) (S:=fun w'=>w'.cell? ⟨gb497,0,none⟩=some (.int .i64 ((rd_T85 l2 x41_2).f0))∧w'.cell? ⟨gb497,1,none⟩=some (.int .u8 ((rd_T85 l2 x41_2).f1))∧w'.cell? ⟨gb491,0,none⟩=some (.int .i64 a0_0)∧w'.cell? ⟨gb491,1,none⟩=some (.int .i64 a0_1)) (ds:=[]) [(0,46),(2,48),(1,47),(3,49),(4,50),(5,0),(6,52),(7,53),(8,54),(9,55),(10,56),(11,57),(12,58),(13,59),(14,60),(15,61),(16,62),(17,63),(18,64),(19,65),(20,66),(21,67),(22,68),(23,69),(24,70),(25,71),(26,72),(27,73)] D2 rfl spec_RegeneratePiece.tab9 spec_RegeneratePiece.bits9 ⟨yk BK497 0,yk BK497 1,yk BK491 0,yk BK491 1⟩ (fun hHeld HT_ HW_=>?_)
        generalize w103.drew=w104 at HO_10 HO_496000 BK491 BK492 BK495 BK497 HB hHeld ⊢
        refine rR ?_
        refine rO (N:=some 51) HT_ rfl rfl D2 D5 (fun K hK=>?_)
        refine goes_ Try.func84 D2 rfl #[.int .i64 ((rd_T85 l2 x41_2).f0), .int .i64 0, .int .i64 (wrap64 (a0_0 - 1))] D16 rfl rfl D8 ?_
        with_reducible refine (spec_l1In.calls ((rd_T85 l2 x41_2).f0) 0 (wrap64 (a0_0 - 1)) false _ A34.out).mono ?_
        rintro e w' ⟨rfl,⟨nd,rfl⟩⟩
        refine ⟨_,rfl,?_⟩
        refine hK.out _ _ ⟨yk BK497 0,yk BK497 1,yk BK491 0,yk BK491 1⟩ (fun hHeld=>?_)
        clear hK K
        refine rN (nA 51) ?_
        refine rR ?_
        refine rD HT_ D2 ?_
        have hnb105:=NB492_491.out
        have hnc105:=NB491_492.out
        have hnb106:=NB492_495.out
        have hnc106:=NB495_492.out
        obtain ⟨hcz107_0,hcz107_1,hfz107_0,hfz107_1⟩:=yk2 BK492
        try go_wp2
        refine bodyPost_ret (results_ct rfl _ _ gb492 76 #[.int .i64 0, .slice none 0 0] (0,0) _ rfl D70 Try.underlying76 rfl D2) rfl ?_
        exact ⟨_,D3,D10,yW HB⟩
       rw [if_neg c33] at H
       exact absurd H D44
      rw [if_neg c32] at H
      exact absurd H D44
     rw [if_neg c31] at H
     have c31b0:=decide_eq_false c31
     clear c31
     obtain ⟨⟨t518,t521⟩,A108,H⟩:=yo H
     try dsimp only at H
     by_cases c109:t521=true
     ·subst c109
      replace H:=yt H
      obtain ⟨t523,A110,H⟩:=yo H
      generalize hji111:(wrap64 (a0_1 - 1))=ji111 at H
      (try rw [hji111] at A108)
      (try rw [hji111] at A110)
      have hji111w:(IntKind.i64.wrap (a0_1 - 1))=ji111:=(i64_w _).trans hji111
      by_cases c112:0≤(ji111)
      ·rw [if_pos c112] at H
       have c112b0:=eq_true c112
       have c112b1:decide (0≤(ji111))=true:=decide_eq_true c112
       clear c112
       by_cases c113:(ji111)≤(t523.length:Int)
       ·rw [if_pos c113] at H
        have c113b0:=eq_true c113
        have c113b1:decide ((ji111)≤(t523.length:Int))=true:=decide_eq_true c113
        clear c113
        generalize hy526:(t523.take ((ji111):Int).toNat:List Int)=y526 at H
        have Ny526:=am hy526.symm
        clear hy526
        obtain ⟨t531,A114,H⟩:=yo H
        have c115b0:=eq_true (od D0:0≤(ji111))
        have c116b0:=eq_true (od D0:(ji111)≤(t523.length:Int))
        generalize hy532:(t523.drop ((ji111):Int).toNat:List Int)=y532 at H
        have Ny532:=am hy532.symm
        clear hy532
        obtain ⟨t537,A117,H⟩:=yo H
        obtain ⟨t540,A118,H⟩:=yo H
        simp only [Option.some.injEq,Prod.mk.injEq] at H
        obtain ⟨rfl,rfl,rfl⟩:=H
        have hnb119:=NB495_491.out
        have hnc119:=NB491_495.out
        have hnb120:=NB495_492.out
        have hnc120:=NB492_495.out
        obtain ⟨hcz121_0,hfz121_0⟩:=yk1 BK495
        obtain ⟨Ao122,co122,eo122⟩:=Kd.N_slice HO_496000.out
        subst eo122
        try go_wp2_with (first|((with_reducible refine gC 114 ?_);refine gM (some 92) Try.func114 (args:=#[.agg #[.slice Ao122 x496000_2.length co122]]) (spec_l2Inverse.calls _ _ x496000_2 t518 true _ (yc (Kd.N_reads' HO_496000.out).2.2) (Kd.N_reads' HO_496000.out).2.1 A108.out) ?_;rintro e w123 ⟨v519,rfl,ho0,hb⟩;refine ⟨_,rfl,?_⟩;have HO520:=am (Kd.N_lower (Kd.N_mono (ok':=fun k_=>some k_ ≠ (u10:Value).ownBlock∧some k_ ≠ (.slice Ao122 x496000_2.length co122:Value).ownBlock∧k_ ≠ gb491∧k_ ≠ gb492∧k_ ≠ gb495) ho0 (fun k_ hk_=>⟨(Kd.fresh' (Kd.R_lt (yR HO_10)) k_ hk_),(Kd.fresh' (Kd.N_lt (yN HO_496000)) k_ hk_),(yz BK491 k_ hk_),(yz BK492 k_ hk_),(yz BK495 k_ hk_)⟩)) (pz (yW HB)));replace HO_10:=bR HO_10 hb;replace HO_496000:=eN HO_496000 D101 hb;replace BK491:=yb BK491 hb;replace BK492:=yb BK492 hb;replace BK495:=yb BK495 hb;replace HB:=yH HB hb;clear hb ho0)|((with_reducible refine gD 13 ?_);(try (refine gate_guard D16 ?_;dsimp only));refine gB (cs:=#[.slice none 0 0]) 27 ?_;intro gb522 hg w124 hbox hb;replace HO_10:=bR HO_10 hb;replace HO_496000:=oN HO_496000 hg hb;replace HO520:=oN HO520 hg hb;have BK522:=am (hbox);have GW522:=ye HB hg;replace HB:=yH HB hb;have NB491_522:=yl BK491 hg;have NB522_491:=yg BK491 hg;replace BK491:=yb BK491 hb;have NB492_522:=yl BK492 hg;have NB522_492:=yg BK492 hg;replace BK492:=yb BK492 hb;have NB495_522:=yl BK495 hg;have NB522_495:=yg BK495 hg;replace BK495:=yb BK495 hb;have GE522:=GW522;clear hb hbox hg;obtain ⟨Ao125,co125,eo125⟩:=Kd.N_slice HO520.out;subst eo125;have hnb126:=NB522_491.out;have hnc126:=NB491_522.out;have hnb127:=NB522_492.out;have hnc127:=NB492_522.out;have hnb128:=NB522_495.out;have hnc128:=NB495_522.out;obtain ⟨hcz129_0,hfz129_0⟩:=yk1 BK522;obtain ⟨Ao130,co130,eo130⟩:=Kd.R_slice HO_10.out;subst eo130)|((with_reducible refine gC 115 ?_);refine gM (some 100) Try.func115 (args:=#[.agg #[.slice Ao125 t518.length co125], .slice Ao130 x10_2.length co130]) (spec_l2Apply.calls k2 _ _ t518 _ _ x10_2 t523 _ ?side1 ?side2 ?side3 ?side4 A110.out) ?_;(case side1=>refine (Kd.N_reads' (e:=24) (base:=w.heap.size) (ok:=fun k_=>((some k_ ≠ (.slice Ao130 x10_2.length co130:Value).ownBlock∧(some k_ ≠ (.slice Ao122 x496000_2.length co122:Value).ownBlock∧(k_ ≠ gb491∧(k_ ≠ gb492∧k_ ≠ gb495))))∧k_ ≠ gb522)) (n:=t518.length) (c:=co125) ?_).2.2;exact D100);(case side2=>exact (Kd.N_reads' HO520.out).2.1);(case side3=>refine (Kd.R_reads' (e:=5) (base:=w.heap.size) (ok:=fun k_=>True) (n:=x10_2.length) (c:=co130) ?_).2.2;exact D74);(case side4=>exact (Kd.R_reads' HO_10.out).2.1);rintro e w131 ⟨v524,rfl,ho0,hb⟩;refine ⟨_,rfl,?_⟩;replace HO_496000:=am (Kd.N_elder' (by refine sN ?_;exact (Kd.N_mono (Kd.N_far (p:=⟨gb522,0,none⟩) (Kd.N_mono HO_496000.out (fun k_ hk=>(⟨hk,hk.2⟩:_∧k_ ≠ gb522))) (fun _ hk=>hk.2) (.slice Ao125 t518.length co125)) (fun _ h_=>h_.1))) (Kd.R_base ho0) hb);replace HO520:=am (Kd.N_elder' D100 (Kd.R_base ho0) hb);have HO525:=am (Kd.R_lower (Kd.R_new' ho0 (Kd.R_lt D74)) (pz (yW HB)));replace HO_10:=am (Kd.R_elder' D74 (Kd.R_base ho0) hb);replace BK491:=am (qb (g:=gb491) (o:=.cells #[.int .i64 a0_0, .int .i64 a0_1] 30 (0,0)) (yF BK491) hb);replace BK492:=am (qb (g:=gb492) (o:=.cells #[.int .i64 x493000_2, .slice none 0 0] 76 (0,0)) (yF BK492) hb);replace BK495:=am (qb (g:=gb495) (o:=.cells #[.slice Ao122 x496000_2.length co122] 27 (0,0)) (yF BK495) hb);replace BK522:=am (qb (g:=gb522) (o:=.cells #[.slice Ao125 t518.length co125] 27 (0,0)) (by refine sB ?_;refine blk_put (cs:=#[.slice none 0 0]) ?_ 0 _ rfl;exact yB BK522) hb);replace HB:=yH HB hb;clear hb ho0))
        replace HO_10:=am (Kd.R_drew HO_10.out)
        replace HO_496000:=am (Kd.N_drew HO_496000.out)
        replace HO520:=am (Kd.N_drew HO520.out)
        replace HO525:=am (Kd.R_drew HO525.out)
        replace BK491:=am (qd BK491.out)
        replace BK492:=am (qd BK492.out)
        replace BK495:=am (qd BK495.out)
        replace BK522:=am (qd BK522.out)
        replace HB:=am (pd HB.out)
        obtain ⟨Ao134,co134,eo134⟩:=Kd.R_slice HO525.out
        (first|subst eo134|(injection eo134 with f1_ f2_ f3_;have f4_:=f1_.symm;have f5_:=f3_.symm;clear f1_ f2_ f3_;subst f4_;subst f5_))
        have q133:((ji111):Int)≤((t523.length:Int):Int):=od D0
        obtain ⟨i0133,hi0133,_,hsz133,_⟩:=info_parts info5
        have hroom133:t523.length≤co134:=(Kd.R_reads' HO525.out).2.1
        have hC133:Kd.F (Kd.int .u8) _ _ Ao134 t523.length t523:=(Kd.V_at (base:=w.heap.size) (Kd.R_V (Kd.R_types (Kd.R_types (Kd.R_types (Kd.R_types (Kd.R_apart' (Kd.R_apart' (HO525.out) (Kd.N_typed HO_496000.out) D5) (Kd.N_typed HO520.out) D5) BK491.out D5) BK492.out D5) BK495.out D5) BK522.out D5))).2.2
        have hcut133:=cut_to (P:=Try.prog) 24 5 .i64 Try.underlying24 hi0133 Ao134 t523.length co134 (ji111) (od D0) q133 hroom133
        have hr133:=Kd.F_take (m:=((ji111):Int).toNat) hC133 D13
        have hy133:y526.length=((ji111):Int).toNat:=(by rw [Ny526.out,List.length_take];omega)
        rw [← Ny526.out] at hr133
        rw [← hy133] at hcut133
        have HO530:=am (show Kd.V (Kd.int .u8) 5 _ w.heap.size _ (.slice Ao134 y526.length co134) y526 from Kd.V_mk D13 hr133)
        have HC530:=am (show y526.length≤co134 from by omega)
        clear hr133 hC133 hroom133 hi0133 hsz133
        have KY133:=am hy133
        clear hy133
        replace q133:=eq_true q133
        have q135:((ji111):Int)≤((t523.length:Int):Int):=od D0
        obtain ⟨i0135,hi0135,_,hsz135,_⟩:=info_parts info5
        have hroom135:t523.length≤co134:=(Kd.R_reads' HO525.out).2.1
        have hC135:Kd.F (Kd.int .u8) _ _ Ao134 t523.length t523:=(Kd.V_at (base:=w.heap.size) (Kd.R_V (Kd.R_types (Kd.R_types (Kd.R_types (Kd.R_types (Kd.R_apart' (Kd.R_apart' (HO525.out) (Kd.N_typed HO_496000.out) D5) (Kd.N_typed HO520.out) D5) BK491.out D5) BK492.out D5) BK495.out D5) BK522.out D5))).2.2
        have q0135:(0:Int)≤((ji111):Int):=od D0
        have hcut135:=cut_from (P:=Try.prog) 24 5 .i64 Try.underlying24 hi0135 1 hsz135 Ao134 t523.length co134 (ji111) q0135 q135
        have hr135:=Kd.F_cut (m:=((ji111):Int).toNat) (c:=co134) hC135 D13 hroom135
        obtain ⟨A135,hA135⟩:∃ A1,A1=(if co134=((ji111):Int).toNat then Ao134 else (Ao134:Option Addr).map (·.add (((ji111):Int).toNat*1))):=⟨_,rfl⟩
        obtain ⟨c135,hc135⟩:∃ c1,c1=co134 - ((ji111):Int).toNat:=⟨_,rfl⟩
        have hy135:y532.length=t523.length - ((ji111):Int).toNat:=(by rw [Ny532.out,List.length_drop] <;> omega)
        rw [show (t523).drop ((ji111):Int).toNat=y532 from Ny532.out.symm] at hr135
        replace hr135:Kd.F (Kd.int .u8) _ _ A135 y532.length y532:=(by rw [hA135];exact hr135)
        rw [← hy135,← hA135,← hc135] at hcut135
        have HO536:=am (show Kd.V (Kd.int .u8) 5 _ w.heap.size _ (.slice A135 y532.length c135) y532 from Kd.V_mk (by rw [hy135,hc135];exact Nat.sub_le_sub_right hroom135 _) hr135)
        have HC536:=am (show y532.length≤c135 from by rw [hy135,hc135];exact Nat.sub_le_sub_right hroom135 _)
        clear hr135 hC135 hroom135 hi0135 hsz135 hc135
        have KY135:=am hy135
        have KA135:=am hA135
        clear hy135 hA135
        replace q135:=eq_true q135
        refine rS (n:=15) (S:=fun w'=>w'.cell? ⟨gb491,0,none⟩=some (.int .i64 a0_0)∧w'.cell? ⟨gb491,1,none⟩=some (.int .i64 a0_1)) (ds:=[]) [(0,101),(1,102),(2,103),(3,104),(5,106),(7,108),(8,109),(9,110),(4,105),(6,0),(10,0),(11,0),(12,113),(13,0),(14,7)] D2 rfl spec_RegeneratePiece.tab18 spec_RegeneratePiece.bits18 ⟨yk BK491 0,yk BK491 1⟩ (fun hHeld HT_ HW_=>?_)
        generalize w131.drew=w132 at HO_10 HO_496000 HO520 HO525 BK491 BK492 BK495 BK522 HB HO530 HO536 hHeld ⊢
        refine rR ?_
        refine rO (N:=some 107) HT_ rfl rfl D2 D5 (fun K hK=>?_)
        refine goes_ Try.func123 D2 rfl #[.agg #[.int .i64 a0_0, .int .i64 a0_1], .int .i64 a1] D16 rfl rfl D8 ?_
        with_reducible refine (spec_l5F.calls k2 a0_0 a0_1 a1 t531 _ A114.out).mono ?_
        rintro e w136 ⟨rfl,hb⟩
        refine ⟨_,rfl,?_⟩
        replace HO_10:=bR HO_10 hb
        replace HO_496000:=bN HO_496000 hb
        replace HO520:=bN HO520 hb
        replace HO525:=bR HO525 hb
        replace HO530:=bV HO530 hb
        replace HO536:=bV HO536 hb
        replace BK491:=yb BK491 hb
        replace BK492:=yb BK492 hb
        replace BK495:=yb BK495 hb
        replace BK522:=yb BK522 hb
        replace HB:=yH HB hb
        (try clear hb)
        (try clear hb2)
        (try clear hk)
        (try clear hi)
        refine hK.out _ _ ⟨yk BK491 0,yk BK491 1⟩ (fun hHeld=>?_)
        clear hK K
        refine rN (nA 107) ?_
        refine rO (N:=some 111) HT_ rfl rfl D2 D5 (fun K hK=>?_)
        refine goes_ Try.func122 D2 rfl #[.int .u8 t531, .slice A135 y532.length c135] D16 rfl rfl D8 ?_
        with_reducible refine (spec_l1Scale.calls k2 t531 _ _ y532 t537 _ (yc (Kd.V_reads' HO536.out).2.2) (Kd.V_reads' HO536.out).2.1 A117.out).mono ?_
        rintro e w137 ⟨v538,rfl,ho0,hb⟩
        refine ⟨_,rfl,?_⟩
        replace HO_496000:=eN HO_496000 (Kd.R_base ho0) hb
        replace HO520:=eN HO520 (Kd.R_base ho0) hb
        replace HO530:=eV HO530 (Kd.R_base ho0) hb
        replace HO536:=eV HO536 (Kd.R_base ho0) hb
        have HO539:=am (Kd.R_lower (Kd.R_new' (Kd.R_new' ho0 (Kd.R_lt (yR HO_10))) (Kd.R_lt (yR HO525))) (pz (yW HB)))
        replace HO_10:=eR HO_10 (Kd.R_base ho0) hb
        replace HO525:=eR HO525 (Kd.R_base ho0) hb
        replace BK491:=yb BK491 hb
        replace BK492:=yb BK492 hb
        replace BK495:=yb BK495 hb
        replace BK522:=yb BK522 hb
        replace HB:=yH HB hb
        (try clear hb)
        (try clear hb2)
        (try clear hk)
        (try clear hi)
        (try clear ho0)
        obtain ⟨Ao138,co138,eo138⟩:=Kd.R_slice HO539.out
        (first|subst eo138|(injection eo138 with f1_ f2_ f3_;have f4_:=f1_.symm;have f5_:=f3_.symm;clear f1_ f2_ f3_;subst f4_;subst f5_))
        refine hK.out _ _ ⟨yk BK491 0,yk BK491 1⟩ (fun hHeld=>?_)
        clear hK K
        refine rN (nA 111) ?_
        refine rO (N:=some 112) HT_ rfl rfl D2 D5 (fun K hK=>?_)
        refine goes_ Try.func73 D2 rfl #[.slice Ao134 y526.length co134, .slice Ao138 t537.length co138] D16 rfl rfl D8 ?_
        with_reducible refine (spec_l1Add.calls k2 _ _ y526 _ _ t537 t540 _ (yc (Kd.V_reads' HO530.out).2.2) (Kd.V_reads' HO530.out).2.1 (yc (Kd.R_reads' HO539.out).2.2) (Kd.R_reads' HO539.out).2.1 A118.out).mono ?_
        rintro e w139 ⟨v541,rfl,ho0,hb⟩
        refine ⟨_,rfl,?_⟩
        replace HO_496000:=eN HO_496000 (Kd.R_base ho0) hb
        replace HO520:=eN HO520 (Kd.R_base ho0) hb
        replace HO530:=eV HO530 (Kd.R_base ho0) hb
        replace HO536:=eV HO536 (Kd.R_base ho0) hb
        have HO542:=am (Kd.R_lower (Kd.R_new' (Kd.R_new' (Kd.R_new' ho0 (Kd.R_lt (yR HO_10))) (Kd.R_lt (yR HO525))) (Kd.R_lt (yR HO539))) (pz (yW HB)))
        replace HO_10:=eR HO_10 (Kd.R_base ho0) hb
        replace HO525:=eR HO525 (Kd.R_base ho0) hb
        replace HO539:=eR HO539 (Kd.R_base ho0) hb
        replace BK491:=yb BK491 hb
        replace BK492:=yb BK492 hb
        replace BK495:=yb BK495 hb
        replace BK522:=yb BK522 hb
        replace HB:=yH HB hb
        (try clear hb)
        (try clear hb2)
        (try clear hk)
        (try clear hi)
        (try clear ho0)
        obtain ⟨Ao140,co140,eo140⟩:=Kd.R_slice HO542.out
        (first|subst eo140|(injection eo140 with f1_ f2_ f3_;have f4_:=f1_.symm;have f5_:=f3_.symm;clear f1_ f2_ f3_;subst f4_;subst f5_))
        refine hK.out _ _ ⟨yk BK491 0,yk BK491 1⟩ (fun hHeld=>?_)
        clear hK K
        refine rN (nA 112) ?_
        refine rR ?_
        refine rO (N:=none) HT_ rfl rfl D2 D5 (fun K hK=>?_)
        have hs141:w139.cell? ⟨gb492,0,none⟩=some (.int .i64 x493000_2):=(blk_cell BK492.out 0).trans rfl
        have hfs141:=blk_frozen BK492.out 0
        have hns141_0:=NB491_492.out
        have hns141_2:=NB495_492.out
        have hns141_3:=NB522_492.out
        have hms141_0:=NB492_491.out
        have hms141_2:=NB492_495.out
        have hms141_3:=NB492_522.out
        have hs142:w139.cell? ⟨gb492,1,none⟩=some (.slice none 0 0):=(blk_cell BK492.out 1).trans rfl
        have hfs142:=blk_frozen BK492.out 1
        have hns142_0:=NB491_492.out
        have hns142_2:=NB495_492.out
        have hns142_3:=NB522_492.out
        have hms142_0:=NB492_491.out
        have hms142_2:=NB492_495.out
        have hms142_3:=NB492_522.out
        refine skip_ (w1:=?_) D16 rfl ?_ ?_
        rotate_left
        ·go_simp
         rfl
        refine hK.out _ _ ⟨((cell_far (p:=⟨gb492,_,none⟩) NB491_492.out _).trans (((cell_far (p:=⟨gb492,_,none⟩) NB491_492.out _).trans (hHeld.1)))),((cell_far (p:=⟨gb492,_,none⟩) NB491_492.out _).trans (((cell_far (p:=⟨gb492,_,none⟩) NB491_492.out _).trans (hHeld.2))))⟩ (fun hHeld=>?_)
        clear hK K
        refine rR ?_
        refine rD HT_ D2 ?_
        try go_wp2
        refine bodyPost_ret (results_ct rfl _ _ gb492 76 #[.int .i64 a1, .slice Ao140 t540.length co140] (0,0) _ rfl (by refine sB ?_;refine blk_put (cs:=#[.int .i64 a1, .slice none 0 0]) ?_ 1 _ rfl;refine sB ?_;refine blk_put (cs:=#[.int .i64 x493000_2, .slice none 0 0]) ?_ 0 _ rfl;exact yB BK492) Try.underlying76 rfl D2) rfl ?_
        exact ⟨_,by first|rfl|(simp [errW_none,errW_some] <;> rfl)|(simp only [← hji111];first|rfl|(simp [errW_none,errW_some] <;> rfl))|(simp [*,errW_none,errW_some] <;> rfl),by refine sR ?_;exact Kd.R_mono (Kd.R_far (p:=⟨gb492,1,none⟩) (Kd.R_far (p:=⟨gb492,0,none⟩) (Kd.R_types HO542.out BK492.out D5) (fun _ hk=>hk.2) (.int .i64 a1)) (fun _ hk=>hk.2) (.slice Ao140 t540.length co140)) (fun _ hk=>trivial),yW HB⟩
       rw [if_neg c113] at H
       exact absurd H D44
      rw [if_neg c112] at H
      exact absurd H D44
     replace c109:=Bool.eq_false_iff.mpr c109
     subst c109
     replace H:=yn H
     simp only [Option.some.injEq,Prod.mk.injEq] at H
     obtain ⟨rfl,rfl,rfl⟩:=H
     have hnb143:=NB495_491.out
     have hnc143:=NB491_495.out
     have hnb144:=NB495_492.out
     have hnc144:=NB492_495.out
     obtain ⟨hcz145_0,hfz145_0⟩:=yk1 BK495
     obtain ⟨Ao146,co146,eo146⟩:=Kd.N_slice HO_496000.out
     subst eo146
     go_wp2_with (first|((with_reducible refine gC 114 ?_);refine gM (some 92) Try.func114 (args:=#[.agg #[.slice Ao146 x496000_2.length co146]]) (spec_l2Inverse.calls _ _ x496000_2 t518 false _ (yc (Kd.N_reads' HO_496000.out).2.2) (Kd.N_reads' HO_496000.out).2.1 A108.out) ?_;rintro e w147 ⟨v519,rfl,ho0,hb⟩;refine ⟨_,rfl,?_⟩;have HO520:=am (Kd.N_lower (Kd.N_mono (ok':=fun k_=>some k_ ≠ (u10:Value).ownBlock∧some k_ ≠ (.slice Ao146 x496000_2.length co146:Value).ownBlock∧k_ ≠ gb491∧k_ ≠ gb492∧k_ ≠ gb495) ho0 (fun k_ hk_=>⟨(Kd.fresh' (Kd.R_lt (yR HO_10)) k_ hk_),(Kd.fresh' (Kd.N_lt (yN HO_496000)) k_ hk_),(yz BK491 k_ hk_),(yz BK492 k_ hk_),(yz BK495 k_ hk_)⟩)) (pz (yW HB)));replace HO_10:=bR HO_10 hb;replace HO_496000:=eN HO_496000 D101 hb;replace BK491:=yb BK491 hb;replace BK492:=yb BK492 hb;replace BK495:=yb BK495 hb;replace HB:=yH HB hb;clear hb ho0)|((with_reducible refine gD 13 ?_);(try (refine gate_guard D16 ?_;dsimp only));refine gB (cs:=#[.slice none 0 0]) 27 ?_;intro gb522 hg w148 hbox hb;replace HO_10:=bR HO_10 hb;replace HO_496000:=oN HO_496000 hg hb;replace HO520:=oN HO520 hg hb;have BK522:=am (hbox);have GW522:=ye HB hg;replace HB:=yH HB hb;have NB491_522:=yl BK491 hg;have NB522_491:=yg BK491 hg;replace BK491:=yb BK491 hb;have NB492_522:=yl BK492 hg;have NB522_492:=yg BK492 hg;replace BK492:=yb BK492 hb;have NB495_522:=yl BK495 hg;have NB522_495:=yg BK495 hg;replace BK495:=yb BK495 hb;have GE522:=GW522;clear hb hbox hg;obtain ⟨Ao149,co149,eo149⟩:=Kd.N_slice HO520.out;subst eo149;have hnb150:=NB522_491.out;have hnc150:=NB491_522.out;have hnb151:=NB522_492.out;have hnc151:=NB492_522.out;have hnb152:=NB522_495.out;have hnc152:=NB495_522.out;obtain ⟨hcz153_0,hfz153_0⟩:=yk1 BK522;have hnb154:=NB492_491.out;have hnc154:=NB491_492.out;obtain ⟨hcz155_0,hcz155_1,hfz155_0,hfz155_1⟩:=yk2 BK492))
     refine bodyPost_ret (results_ct rfl _ _ gb492 76 #[.int .i64 0, .slice none 0 0] (0,0) _ rfl (by refine sB ?_;refine blk_put (cs:=#[.int .i64 0, .slice none 0 0]) ?_ 1 _ rfl;refine sB ?_;refine blk_put (cs:=#[.int .i64 x493000_2, .slice none 0 0]) ?_ 0 _ rfl;exact yF BK492) Try.underlying76 rfl D2) rfl ?_
     exact ⟨_,D3,D10,yW HB⟩
end Go.Proofs.Yteflgifmdojahaa.PFnRegenerated
-- SQUEEZED
