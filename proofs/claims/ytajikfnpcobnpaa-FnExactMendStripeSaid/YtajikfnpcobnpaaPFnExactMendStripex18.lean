-- Laid by a program of this session.
import Derived.Test.YtajikfnpcobnpaaVMendStripeB
import Derived.Test.YtajikfnpcobnpaaPFnExactMendStripex0
import Derived.Test.YtajikfnpcobnpaaPFnExactMendStripex12
import Derived.Test.YtajikfnpcobnpaaPFnExactMendStripex13
import Derived.Test.YtajikfnpcobnpaaPFnExactMendStripex14
import Derived.Test.YtajikfnpcobnpaaPFnExactMendStripex15
import Derived.Test.YtajikfnpcobnpaaPFnExactMendStripex17
namespace Go.Proofs.Ytajikfnpcobnpaa.PFnExactMendStripe
open Go.RowKit Go.Proofs.YtajikfnpcobnpaaW.PrintWords Go.Proofs.YtajikfnpcobnpaaW.PrintLast Go.Proofs.YtajikfnpcobnpaaW.PrintMore Go.Proofs.Ytajikfnpcobnpaa.KitS
attribute [local go_sem] max2_int min2_int max_two min_two max_three min_three max_four min_four   -- for this text's walks alone
set_option linter.unusedVariables false
set_option maxHeartbeats 8000000
set_option maxRecDepth 100000
set_option linter.unusedSimpArgs false

mutual
def impl_MendStripe.j0:Nat→List Int→Bool→List ByteArray→List ByteArray→Option (List ByteArray × List ByteArray × Bool)
 | 0,_,_,_,_=>none
 | k+1,x1,x39,x309000,x309001=>if x39=true then (some (([]:List ByteArray),([]:List ByteArray),false)) else ((slices_Clone_string_string.f x309000).bind fun t312=>((slices_Clone_string_string.f x309001).bind fun t315=>(if (x1.length:Int)=0 then (some (t312,t315,true)) else (impl_MendStripe.l0 k x1 x1 (x1.length:Int) 0 x309000 x309001 t312 t315))))
def impl_MendStripe.l0:Nat→List Int→List Int→Int→Int→List ByteArray→List ByteArray→List ByteArray→List ByteArray→Option (List ByteArray × List ByteArray × Bool)
 | 0,_,_,_,_,_,_,_,_=>none
 | k+1,x1,x52,x53,x54,x309000,x309001,x319000,x319001=>if x54 < x53 then (if 0≤x54 then (if x54 < (x52.length:Int) then (if 0≤(rd x52 x54) then (if (rd x52 x54) < (x309000.length:Int) then (if 0≤((rdOf ByteArray.empty x309000 (rd x52 x54)).size:Int) then (if (((rdOf ByteArray.empty x309000 (rd x52 x54)).size:Int):Int).toNat≤281474976710656 then (if (rd x52 x54) < (x319000.length:Int) then (impl_MendStripe.l0 k x1 x52 x53 (wrap64 (x54+1)) x309000 x309001 (x319000.set ((rd x52 x54):Int).toNat (strOfNums (List.replicate (((rdOf ByteArray.empty x309000 (rd x52 x54)).size:Int):Int).toNat 0))) x319001) else (none)) else (none)) else (none)) else (none)) else (none)) else (none)) else (none)) else ((impl_parityRows.f k (x309000.length:Int) (x1.length:Int)).bind fun t325=>((impl_combined.f k t325 x319000).bind fun t328=>(if 0≤(x1.length:Int) then (if (x1.length:Int)≤(x309001.length:Int) then ((impl_sums.f k t328 (x309001.take ((x1.length:Int):Int).toNat)).bind fun t332=>(impl_MendStripe.l1 k x1 t332 (([]:List (List Int))) t325 (t325.length:Int) 0 x319000 x319001)) else (none)) else (none))))
def impl_MendStripe.l1:Nat→List Int→List ByteArray→List (List Int)→List (List Int)→Int→Int→List ByteArray→List ByteArray→Option (List ByteArray × List ByteArray × Bool)
 | 0,_,_,_,_,_,_,_,_=>none
 | k+1,x1,x10,x11,x88,x89,x90,x319000,x319001=>if x90 < x89 then (if 0≤x90 then (if x90 < (x88.length:Int) then (impl_MendStripe.l2 k x1 x10 x11 (rd_L3 x88 x90) (([]:List Int)) x88 x89 x90 x1 (x1.length:Int) 0 x319000 x319001) else (none)) else (none)) else ((impl_inverseOf.f x11).bind fun bt350=>(if bt350.2=true then ((impl_combined.f k bt350.1 x10).bind fun t354=>(impl_MendStripe.l3 k x1 t354 (t354.length:Int) 0 x319000 x319001)) else (some (([]:List ByteArray),([]:List ByteArray),false))))
def impl_MendStripe.l2:Nat→List Int→List ByteArray→List (List Int)→List Int→List Int→List (List Int)→Int→Int→List Int→Int→Int→List ByteArray→List ByteArray→Option (List ByteArray × List ByteArray × Bool)
 | 0,_,_,_,_,_,_,_,_,_,_,_,_,_=>none
 | k+1,x1,x10,x11,x13,x14,x88,x89,x90,x95,x96,x97,x319000,x319001=>if x97 < x96 then (if 0≤x97 then (if x97 < (x95.length:Int) then (if 0≤(rd x95 x97) then (if (rd x95 x97) < (x13.length:Int) then (if x14.length < 140737488355328 then (impl_MendStripe.l2 k x1 x10 x11 x13 (x14 ++ [rd x13 (rd x95 x97)]) x88 x89 x90 x95 x96 (wrap64 (x97+1)) x319000 x319001) else (none)) else (none)) else (none)) else (none)) else (none)) else (if x11.length < 5864062014805 then (impl_MendStripe.l1 k x1 x10 (x11 ++ [x14]) x88 x89 (wrap64 (x90+1)) x319000 x319001) else (none))
def impl_MendStripe.l3:Nat→List Int→List ByteArray→Int→Int→List ByteArray→List ByteArray→Option (List ByteArray × List ByteArray × Bool)
 | 0,_,_,_,_,_,_=>none
 | k+1,x1,x124,x125,x126,x319000,x319001=>if x126 < x125 then (if 0≤x126 then (if x126 < (x124.length:Int) then (if x126 < (x1.length:Int) then (if 0≤(rd x1 x126) then (if (rd x1 x126) < (x319000.length:Int) then (impl_MendStripe.l3 k x1 x124 x125 (wrap64 (x126+1)) (x319000.set ((rd x1 x126):Int).toNat (rdOf ByteArray.empty x124 x126)) x319001) else (none)) else (none)) else (none)) else (none)) else (none)) else (some (x319000,x319001,true))
end
def impl_MendStripe.f (k:Nat) (l0_0:List ByteArray) (l0_1:List ByteArray) (l1:List Int):Option (List ByteArray × List ByteArray × Bool):=(impl_GoodStripe.f l0_0 l0_1).bind fun t310=>(if t310=true then ((impl_isIncreasing.f k l1 (l0_0.length:Int)).bind fun t311=>(if t311=true then (impl_MendStripe.j0 k l1 (decide ((l1.length:Int) > (l0_1.length:Int))) l0_0 l0_1) else (impl_MendStripe.j0 k l1 true l0_0 l0_1))) else (impl_MendStripe.j0 k l1 true l0_0 l0_1))
theorem impl_MendStripe.mono_l:∀ k,(∀ y0 y1 y2 y3,LeO (impl_MendStripe.j0 k y0 y1 y2 y3) (impl_MendStripe.j0 (k+1) y0 y1 y2 y3))∧(∀ y0 y1 y2 y3 y4 y5 y6 y7,LeO (impl_MendStripe.l0 k y0 y1 y2 y3 y4 y5 y6 y7) (impl_MendStripe.l0 (k+1) y0 y1 y2 y3 y4 y5 y6 y7))∧(∀ y0 y1 y2 y3 y4 y5 y6 y7,LeO (impl_MendStripe.l1 k y0 y1 y2 y3 y4 y5 y6 y7) (impl_MendStripe.l1 (k+1) y0 y1 y2 y3 y4 y5 y6 y7))∧(∀ y0 y1 y2 y3 y4 y5 y6 y7 y8 y9 y10 y11 y12,LeO (impl_MendStripe.l2 k y0 y1 y2 y3 y4 y5 y6 y7 y8 y9 y10 y11 y12) (impl_MendStripe.l2 (k+1) y0 y1 y2 y3 y4 y5 y6 y7 y8 y9 y10 y11 y12))∧(∀ y0 y1 y2 y3 y4 y5,LeO (impl_MendStripe.l3 k y0 y1 y2 y3 y4 y5) (impl_MendStripe.l3 (k+1) y0 y1 y2 y3 y4 y5))
 | 0=>⟨fun _ _ _ _ r h=>by simp [impl_MendStripe.j0] at h,fun _ _ _ _ _ _ _ _ r h=>by simp [impl_MendStripe.l0] at h,fun _ _ _ _ _ _ _ _ r h=>by simp [impl_MendStripe.l1] at h,fun _ _ _ _ _ _ _ _ _ _ _ _ _ r h=>by simp [impl_MendStripe.l2] at h,fun _ _ _ _ _ _ r h=>by simp [impl_MendStripe.l3] at h⟩
 | k+1=>by
  obtain ⟨ih0,ih1,ih2,ih3,ih4⟩:=impl_MendStripe.mono_l k
  refine ⟨?_,?_,?_,?_,?_⟩
  ·intro y0 y1 y2 y3
   unfold impl_MendStripe.j0
   exact mm
  ·intro y0 y1 y2 y3 y4 y5 y6 y7
   unfold impl_MendStripe.l0
   exact mm
  ·intro y0 y1 y2 y3 y4 y5 y6 y7
   unfold impl_MendStripe.l1
   exact mm
  ·intro y0 y1 y2 y3 y4 y5 y6 y7 y8 y9 y10 y11 y12
   unfold impl_MendStripe.l2
   exact mm
  intro y0 y1 y2 y3 y4 y5
  unfold impl_MendStripe.l3
  exact mm
theorem impl_MendStripe.mono:∀ a0 a1 a2 k,LeO (impl_MendStripe.f k a0 a1 a2) (impl_MendStripe.f (k+1) a0 a1 a2):=by
 intro a0 a1 a2 k
 obtain ⟨ih0,ih1,ih2,ih3,ih4⟩:=impl_MendStripe.mono_l k
 unfold impl_MendStripe.f
 exact mm
def impl_MendStripe.T3:Bool × List (List Nat × List Nat):=(true,[([],[]),([0],[0]),([1],[1]),([],[]),([3],[3]),([4,2],[4]),([2,5],[2,5]),([],[]),([7,6,5,0,1,2,3,4,5,6,7],[6,7])])
def impl_MendStripe.B3:List Nat:=[0,1,3,0,8,31,63,0,255]
theorem impl_MendStripe.tab3:rtab .any (opsOf Try.f19 3)=impl_MendStripe.T3:=by kernel_rfl
theorem impl_MendStripe.bits3:waitsOk impl_MendStripe.T3.2 impl_MendStripe.B3=true:=by kernel_rfl
def impl_MendStripe.T9:Bool × List (List Nat × List Nat):=(true,[([],[]),([0],[0]),([],[]),([],[]),([3],[3]),([],[]),([4,5],[4,5]),([6],[6]),([7],[7]),([8,8],[8]),([9],[9]),([1,2,0,1,2,3,4,5,6,7,8,9,10],[1,2]),([11,10,0,1,2,3,4,5,6,7,8,9,10],[10,11])])
def impl_MendStripe.B9:List Nat:=[0,1,0,0,8,0,56,120,248,504,1016,2047,4095]
theorem impl_MendStripe.tab9:rtab .any (opsOf Try.f19 9)=impl_MendStripe.T9:=by kernel_rfl
theorem impl_MendStripe.bits9:waitsOk impl_MendStripe.T9.2 impl_MendStripe.B9=true:=by kernel_rfl
def impl_MendStripe.T12:Bool × List (List Nat × List Nat):=(true,[([],[]),([],[]),([1],[1]),([0,2],[0,2]),([],[]),([4],[4]),([],[]),([6],[6]),([5,7],[5,7]),([3,8,3],[3,8]),([9,9,0,1,2,3,4,5,6,7,8,9],[9])])
def impl_MendStripe.B12:List Nat:=[0,0,2,7,0,16,0,64,240,511,1023]
theorem impl_MendStripe.tab12:rtab .any (opsOf Try.f19 12)=impl_MendStripe.T12:=by kernel_rfl
theorem impl_MendStripe.bits12:waitsOk impl_MendStripe.T12.2 impl_MendStripe.B12=true:=by kernel_rfl
def impl_MendStripe.T31:Bool × List (List Nat × List Nat):=(true,[([],[]),([0],[0]),([],[]),([],[]),([2,3],[2,3]),([4],[4]),([],[]),([1,5,0,1,2,3,4,5,6],[1,5]),([7,6,0,1,2,3,4,5,6],[6,7])])
def impl_MendStripe.B31:List Nat:=[0,1,0,0,12,28,0,127,255]
theorem impl_MendStripe.tab31:rtab .any (opsOf Try.f19 31)=impl_MendStripe.T31:=by kernel_rfl
theorem impl_MendStripe.bits31:waitsOk impl_MendStripe.T31.2 impl_MendStripe.B31=true:=by kernel_rfl
theorem impl_MendStripe.calls (k:Nat) (A0_0:Option Addr) (c0_0:Nat) (l0_0:List ByteArray) (A0_1:Option Addr) (c0_1:Nat) (l0_1:List ByteArray) (A1:Option Addr) (c1:Nat) (l1:List Int) (r1:List ByteArray) (r2:List ByteArray) (r3:Bool) (w:World) (hr0_0:Kd.C Kd.string w A0_0 l0_0.length l0_0) (hc0_0:l0_0.length≤c0_0) (hr0_1:Kd.C Kd.string w A0_1 l0_1.length l0_1) (hc0_1:l0_1.length≤c0_1) (hr1:Kd.C (Kd.int .i64) w A1 l1.length l1) (hc1:l1.length≤c1) (h:impl_MendStripe.f k l0_0 l0_1 l1=some (r1,r2,r3)) :
  Calls Try.prog 19 #[.agg #[.slice A0_0 l0_0.length c0_0, .slice A0_1 l0_1.length c0_1], .slice A1 l1.length c1] w fun e w'=>∃ v0_ v1_:Value,e = .returned (.tuple #[.agg #[v0_,v1_], .bool r3])∧Kd.R Kd.string 9 w' w.heap.size (fun k_=>some k_ ≠ (v1_:Value).ownBlock) v0_ r1∧Kd.R Kd.string 9 w' w.heap.size (fun k_=>some k_ ≠ (v0_:Value).ownBlock) v1_ r2∧Below w.heap.size w w':=by
 have hu27:=Try.underlying27
 have HR0_0:=am hr0_0
 have HC0_0:=am hc0_0
 clear hr0_0 hc0_0
 have HR0_1:=am hr0_1
 have HC0_1:=am hc0_1
 clear hr0_1 hc0_1
 have HR1:=am hr1
 have HC1:=am hc1
 clear hr1 hc1
 have HB:=am (Below.refl w.heap.size w)
 have H:=h
 unfold impl_MendStripe.f at H
 clear h
 have HC3:=am H
 clear H
 go_enter Try.func19,Try.ntmps19
 go_upto_region 1 with (first|(refine gD 2 ?_;(try (refine gate_guard D10 ?_;dsimp only));refine gB (cs:=#[.slice A0_0 l0_0.length c0_0, .slice A0_1 l0_1.length c0_1]) 27 ?_;intro gb308 hg w4 hbox hb;have BK308:=am (hbox);have GW308:=ye HB hg;replace HB:=yH HB hb;have GE308:=GW308;clear hb hbox hg)|(refine gD 4 ?_;(try (refine gate_guard D10 ?_;dsimp only));refine gB (cs:=#[.slice none 0 0, .slice none 0 0]) 27 ?_;intro gb309 hg w5 hbox hb;have BK309:=am (hbox);have GW309:=ye HB hg;replace HB:=yH HB hb;have NB308_309:=yl BK308 hg;have NB309_308:=yg BK308 hg;replace BK308:=yb BK308 hb;have GE309:=GW309;clear hb hbox hg))
 (try simp only [Act.put,q1,q2,q3])
 go_cut [39] (fun v39 wc=>∃ (kq:Nat) (x39_2:Bool),v39 = .bool x39_2∧Aside0 (impl_MendStripe.j0 kq l1 x39_2 l0_0 l0_1=some (r1,r2,r3))∧Aside0 (kq≤k)∧Aside0 (wc.heap[gb308]? = some (.cells #[(.slice A0_0 l0_0.length c0_0),(.slice A0_1 l0_1.length c0_1)] 27 (0,0)))∧Aside0 (wc.heap[gb309]? = some (.cells #[(.slice none 0 0),(.slice none 0 0)] 27 (0,0)))∧Aside0 (Below w.heap.size w wc))
 case first =>
  have H:=HC3.out
  clear HC3
  obtain ⟨t310,A6,H⟩:=yo H
  by_cases c7:t310=true
  ·subst c7
   replace H:=yt H
   obtain ⟨t311,A8,H⟩:=yo H
   by_cases c9:t311=true
   ·subst c9
    replace H:=yt H
    have H':=am H
    clear H
    have hnb10:=NB308_309.out
    have hnc10:=NB309_308.out
    obtain ⟨hcz11_0,hcz11_1,hfz11_0,hfz11_1⟩:=yk2 BK308
    go_wp2_with (first|(refine gC 95 ?_;refine gM (some 22) Try.func95 (args:=#[.agg #[.slice A0_0 l0_0.length c0_0, .slice A0_1 l0_1.length c0_1]]) (impl_GoodStripe.calls _ _ l0_0 _ _ l0_1 true _ (yc (Kd.C_below HR0_0.out HB.out)) HC0_0.out (yc (Kd.C_below HR0_1.out HB.out)) HC0_1.out A6.out) ?_;rintro e w12 ⟨rfl,hb⟩;refine ⟨_,rfl,?_⟩;replace BK308:=yb BK308 hb;replace BK309:=yb BK309 hb;replace HB:=yH HB hb;clear hb;obtain ⟨hcz13_0,hcz13_1,hfz13_0,hfz13_1⟩:=yk2 BK308)|(go_at_call 96;(with_reducible refine (impl_isIncreasing.calls k _ _ l1 (l0_0.length:Int) true _ (yc (Kd.C_below HR1.out HB.out)) HC1.out A8.out).mono ?_);rintro e w' ⟨rfl,⟨nd,rfl⟩⟩))
    go_meet
    case rel=>exact ⟨_,(decide ((l1.length:Int) > (l0_1.length:Int))),D1,H',⟨D62⟩,⟨yB BK308⟩,⟨yB BK309⟩,⟨yW HB⟩⟩
   replace c9:=Bool.eq_false_iff.mpr c9
   subst c9
   replace H:=yn H
   have H':=am H
   clear H
   have hnb14:=NB308_309.out
   have hnc14:=NB309_308.out
   obtain ⟨hcz15_0,hcz15_1,hfz15_0,hfz15_1⟩:=yk2 BK308
   go_wp2_with (first|(refine gC 95 ?_;refine gM (some 22) Try.func95 (args:=#[.agg #[.slice A0_0 l0_0.length c0_0, .slice A0_1 l0_1.length c0_1]]) (impl_GoodStripe.calls _ _ l0_0 _ _ l0_1 true _ (yc (Kd.C_below HR0_0.out HB.out)) HC0_0.out (yc (Kd.C_below HR0_1.out HB.out)) HC0_1.out A6.out) ?_;rintro e w16 ⟨rfl,hb⟩;refine ⟨_,rfl,?_⟩;replace BK308:=yb BK308 hb;replace BK309:=yb BK309 hb;replace HB:=yH HB hb;clear hb;obtain ⟨hcz17_0,hcz17_1,hfz17_0,hfz17_1⟩:=yk2 BK308)|(go_at_call 96;(with_reducible refine (impl_isIncreasing.calls k _ _ l1 (l0_0.length:Int) false _ (yc (Kd.C_below HR1.out HB.out)) HC1.out A8.out).mono ?_);rintro e w' ⟨rfl,⟨nd,rfl⟩⟩))
   go_meet
   case rel=>exact ⟨_,(true),D1,H',⟨D62⟩,⟨yB BK308⟩,⟨yB BK309⟩,⟨yW HB⟩⟩
  replace c7:=Bool.eq_false_iff.mpr c7
  subst c7
  replace H:=yn H
  have H':=am H
  clear H
  have hnb18:=NB308_309.out
  have hnc18:=NB309_308.out
  obtain ⟨hcz19_0,hcz19_1,hfz19_0,hfz19_1⟩:=yk2 BK308
  go_wp2_with (first|(refine gC 95 ?_;refine gM (some 22) Try.func95 (args:=#[.agg #[.slice A0_0 l0_0.length c0_0, .slice A0_1 l0_1.length c0_1]]) (impl_GoodStripe.calls _ _ l0_0 _ _ l0_1 false _ (yc (Kd.C_below HR0_0.out HB.out)) HC0_0.out (yc (Kd.C_below HR0_1.out HB.out)) HC0_1.out A6.out) ?_;rintro e w20 ⟨rfl,hb⟩;refine ⟨_,rfl,?_⟩;replace BK308:=yb BK308 hb;replace BK309:=yb BK309 hb;replace HB:=yH HB hb;clear hb))
  go_meet
  case rel=>exact ⟨_,(true),D1,H',⟨D62⟩,⟨yB BK308⟩,⟨yB BK309⟩,⟨yW HB⟩⟩
 case rest =>
  clear HC3
  try clear c1
  try clear p2
  try clear c7
  try clear c9
  try clear c10
  try clear c14
  try clear c18
  try clear c19
  try clear hcz11_0
  try clear hcz11_1
  try clear hcz13_0
  try clear hcz13_1
  try clear hcz15_0
  try clear hcz15_1
  try clear hcz17_0
  try clear hcz17_1
  try clear hcz19_0
  try clear hcz19_1
  try clear hfz11_0
  try clear hfz11_1
  try clear hfz13_0
  try clear hfz13_1
  try clear hfz15_0
  try clear hfz15_1
  try clear hfz17_0
  try clear hfz17_1
  try clear hfz19_0
  try clear hfz19_1
  obtain ⟨kq,x39_2,rfl,HA,HJ2,BK308,BK309,HB⟩:=hcut
  cases kq with
  | zero=>exact absurd HA.out (by simp [impl_MendStripe.j0])
  | succ kj2 =>
   have H:=HA.out
   clear HA
   simp only [impl_MendStripe.j0] at H
   by_cases c21:x39_2=true
   ·subst c21
    replace H:=yt H
    simp only [Option.some.injEq,Prod.mk.injEq] at H
    obtain ⟨rfl,rfl,rfl⟩:=H
    have hnb22:=NB309_308.out
    have hnc22:=NB308_309.out
    obtain ⟨hcz23_0,hcz23_1,hfz23_0,hfz23_1⟩:=yk2 BK309
    go_wp2
    refine bodyPost_ret (results_ct rfl _ _ gb309 27 #[.slice none 0 0, .slice none 0 0] (0,0) _ rfl D54 Try.underlying27 rfl D2) rfl ?_
    exact ⟨_,_,D3,D9,D9,yW HB⟩
   replace c21:=Bool.eq_false_iff.mpr c21
   subst c21
   replace H:=yn H
   obtain ⟨t312,A24,H⟩:=yo H
   obtain ⟨t315,A25,H⟩:=yo H
   by_cases c26:(l1.length:Int)=0
   ·rw [if_pos c26] at H
    have c26b0:((l1.length:Int) == 0)=true:=beq_iff_eq.mpr c26
    have c26b1:((l1.length:Int) != 0)=false:=bne_eq_false_iff_eq.mpr c26
    clear c26
    simp only [Option.some.injEq,Prod.mk.injEq] at H
    obtain ⟨rfl,rfl,rfl⟩:=H
    try go_wp2
    replace BK308:=am (qd BK308.out)
    replace BK309:=am (qd BK309.out)
    replace HB:=am (pd HB.out)
    refine start_ (n:=9) (S:=fun w'=>w'.cell? ⟨gb308,0,none⟩=some (.slice A0_0 l0_0.length c0_0)∧w'.cell? ⟨gb308,1,none⟩=some (.slice A0_1 l0_1.length c0_1)) (ds:=[]) #[Z,Z,Z,Z,Z,Z,Z,Z,Z] D2 rfl rfl ⟨(blk_cell BK308.out 0).trans rfl,(blk_cell BK308.out 1).trans rfl⟩ (fun hHeld=>?_);refine with_tabW impl_MendStripe.tab3 impl_MendStripe.bits3 (fun HT_ HW_=>?_)
    generalize wc.drew=w27 at BK308 BK309 HB hHeld ⊢
    refine pure_ (i:=0) (N:=some 41) (v:=?_) (a':=?_) #[Y,Z,Z,Z,Z,Z,Z,Z,Z] rfl rfl (any_of HT_.out D2) hh (Or.inl ⟨D10,?_⟩) ?_ ?_
    rotate_left
    ·intro w'
     go_simp
     with_reducible rfl
    rotate_left
    ·simp only [Act.put,q1,q2,q3,i64_w,i32_w]
     rfl
    refine pure_ (i:=3) (N:=some 44) (v:=?_) (a':=?_) #[Y,Z,Z,Y,Z,Z,Z,Z,Z] rfl rfl (any_of HT_.out D2) hh (Or.inl ⟨D10,?_⟩) ?_ ?_
    rotate_left
    ·intro w'
     go_simp
     with_reducible rfl
    rotate_left
    ·simp only [Act.put,q1,q2,q3,i64_w,i32_w]
     rfl
    refine take_ (i:=1) (N:=some 42) (v:=?_) (a':=?_) #[Y,Y,Z,Y,Z,Z,Z,Z,Z] rfl rfl (take_ofW HT_.out HW_.out D2) hh (Or.inl ⟨D10,?_⟩) hHeld ?_ ?_
    rotate_left
    ·rintro w' ⟨s0,s1⟩
     go_simp
     with_reducible rfl
    rotate_left
    ·simp only [Act.put,q1,q2,q3,i64_w,i32_w]
     rfl
    refine take_ (i:=4) (N:=some 45) (v:=?_) (a':=?_) #[Y,Y,Z,Y,Y,Z,Z,Z,Z] rfl rfl (take_ofW HT_.out HW_.out D2) hh (Or.inl ⟨D10,?_⟩) hHeld ?_ ?_
    rotate_left
    ·rintro w' ⟨s0,s1⟩
     go_simp
     with_reducible rfl
    rotate_left
    ·simp only [Act.put,q1,q2,q3,i64_w,i32_w]
     rfl
    refine join_ (σ:=Value × Value × Nat) 1 #[Y,Y,Y,Y,Y,Y,Y,Y,Z] (fun s_=>[(43,s_.1),(46,s_.2.1),(6, .pointer (some ⟨s_.2.2,0,none⟩)),(47, .agg #[s_.1,s_.2.1])]) (fun s_ w'=>(w'.cell? ⟨gb308,0,none⟩=some (.slice A0_0 l0_0.length c0_0)∧w'.cell? ⟨gb308,1,none⟩=some (.slice A0_1 l0_1.length c0_1))∧(Kd.R Kd.string 9 w' w.heap.size (fun k_=>some k_ ≠ (s_.2.1:Value).ownBlock) s_.1 t312)∧(Kd.R Kd.string 9 w' w.heap.size (fun k_=>some k_ ≠ (s_.1:Value).ownBlock) s_.2.1 t315)∧(w'.heap[gb308]? = some (.cells #[.slice A0_0 l0_0.length c0_0, .slice A0_1 l0_1.length c0_1] 27 (0,0)))∧(w'.heap[gb309]? = some (.cells #[.slice none 0 0, .slice none 0 0] 27 (0,0)))∧(w'.heap[s_.2.2]? = some (.cells #[.slice none 0 0, .slice none 0 0] 27 (0,0)))∧(w.heap.size≤s_.2.2)∧(w.heap.size≤s_.2.2)∧(gb308 ≠ s_.2.2)∧(s_.2.2 ≠ gb308)∧(gb309 ≠ s_.2.2)∧(s_.2.2 ≠ gb309)∧(Below w.heap.size w w')) ?_ ?_
    rotate_left
    ·intro hCont
     refine two_ (i:=2) (j:=7) (Ni:=some 43) (Nj:=some 6) #[Y,Y,Y,Y,Y,Z,Z,Z,Z] #[Y,Y,Z,Y,Y,Z,Z,Y,Z] rfl rfl rfl rfl (two_of HT_.out D2) D6 D6 (fun K hK=>?_) (fun K hK=>?_)
     ·skip
      refine goes_ Try.func97 D2 rfl #[.slice A0_0 l0_0.length c0_0] D10 rfl rfl D4 ?_
      with_reducible refine (slices_Clone_string_string.calls _ _ l0_0 t312 _ ?side1 ?side2 A24.out).mono ?_
      (case side1=>repeat (first|exact (Kd.C_below HR0_0.out HB.out)|(with_reducible refine Kd.C_alloc ?_ _)|(with_reducible refine Kd.C_drewN ?_ _)|(with_reducible refine Kd.C_drew ?_)))
      (case side2=>exact HC0_0.out)
      rintro e w28 ⟨v313,rfl,ho0,hb⟩
      refine ⟨_,rfl,?_⟩
      have HO314:=am (Kd.R_lower ho0 (pz (yW HB)))
      replace BK308:=yb BK308 hb
      replace BK309:=yb BK309 hb
      replace HB:=yH HB hb
      (try clear hb)
      (try clear hb2)
      (try clear hk)
      (try clear hi)
      (try clear ho0)
      refine hK.out _ _ ⟨(blk_cell BK308.out 0).trans rfl,(blk_cell BK308.out 1).trans rfl⟩ (fun hHeld=>?_)
      clear hK K
      refine norm_ (a':=?_) ?_ ?_
      rotate_left
      ·show Act.put _ (some 43) _=_
       simp only [Act.put,q1,q2,q3,i64_w,i32_w]
       rfl
      refine two_ (i:=5) (j:=7) (Ni:=some 46) (Nj:=some 6) #[Y,Y,Y,Y,Y,Y,Z,Z,Z] #[Y,Y,Y,Y,Y,Z,Z,Y,Z] rfl rfl rfl rfl (two_of HT_.out D2) D6 D6 (fun K hK=>?_) (fun K hK=>?_)
      ·skip
       refine goes_ Try.func97 D2 rfl #[.slice A0_1 l0_1.length c0_1] D10 rfl rfl D4 ?_
       with_reducible refine (slices_Clone_string_string.calls _ _ l0_1 t315 _ ?side1 ?side2 A25.out).mono ?_
       (case side1=>repeat (first|exact (Kd.C_below HR0_1.out HB.out)|(with_reducible refine Kd.C_alloc ?_ _)|(with_reducible refine Kd.C_drewN ?_ _)|(with_reducible refine Kd.C_drew ?_)))
       (case side2=>exact HC0_1.out)
       rintro e w29 ⟨v316,rfl,ho0,hb⟩
       refine ⟨_,rfl,?_⟩
       have HO317:=am (Kd.R_lower (Kd.R_new' ho0 (Kd.R_lt (yR HO314))) (pz (yW HB)))
       replace HO314:=eR HO314 (Kd.R_base ho0) hb
       replace BK308:=yb BK308 hb
       replace BK309:=yb BK309 hb
       replace HB:=yH HB hb
       (try clear hb)
       (try clear hb2)
       (try clear hk)
       (try clear hi)
       (try clear ho0)
       obtain ⟨Ao30,co30,eo30⟩:=Kd.R_slice HO317.out
       (first|subst eo30|(injection eo30 with f1_ f2_ f3_;have f4_:=f1_.symm;have f5_:=f3_.symm;clear f1_ f2_ f3_;subst f4_;subst f5_))
       obtain ⟨Ao31,co31,eo31⟩:=Kd.R_slice HO314.out
       (first|subst eo31|(injection eo31 with f1_ f2_ f3_;have f4_:=f1_.symm;have f5_:=f3_.symm;clear f1_ f2_ f3_;subst f4_;subst f5_))
       refine hK.out _ _ ⟨(blk_cell BK308.out 0).trans rfl,(blk_cell BK308.out 1).trans rfl⟩ (fun hHeld=>?_)
       clear hK K
       refine norm_ (a':=?_) ?_ ?_
       rotate_left
       ·show Act.put _ (some 46) _=_
        simp only [Act.put,q1,q2,q3,i64_w,i32_w]
        rfl
       refine pure_ (i:=6) (N:=some 47) (v:=?_) (a':=?_) #[Y,Y,Y,Y,Y,Y,Y,Z,Z] rfl rfl (any_of HT_.out D2) hh (Or.inl ⟨D10,?_⟩) ?_ ?_
       rotate_left
       ·intro w'
        go_simp
        with_reducible rfl
       rotate_left
       ·simp only [Act.put,q1,q2,q3,i64_w,i32_w]
        rfl
       refine one_ (i:=7) (N:=some 6) #[Y,Y,Y,Y,Y,Y,Y,Y,Z] rfl rfl (one_of HT_.out D2) D6 (fun K hK=>?_)
       refine box_step ?hg (N:=6) ?hd (cs:=#[.slice none 0 0, .slice none 0 0]) (t:=27) ?hr ?_;(case hd=>rfl);(case hg=>rfl);(case hr=>first|(go_simp;done)|(go_simp;rfl))
       intro gb318 hg w32 hbox hb
       replace HO314:=bR HO314 hb
       replace HO317:=bR HO317 hb
       have BK318:=am (hbox)
       have GW318:=ye HB hg
       replace HB:=yH HB hb
       have NB308_318:=yl BK308 hg
       have NB318_308:=yg BK308 hg
       replace BK308:=yb BK308 hb
       have NB309_318:=yl BK309 hg
       have NB318_309:=yg BK309 hg
       replace BK309:=yb BK309 hb
       have GE318:=GW318
       clear hb hbox hg
       refine hK.out _ _ ⟨(blk_cell BK308.out 0).trans rfl,(blk_cell BK308.out 1).trans rfl⟩ (fun hHeld=>?_)
       clear hK K
       refine norm_ (a':=?_) ?_ ?_
       rotate_left
       ·show Act.put _ (some 6) _=_
        simp only [Act.put,q1,q2,q3,i64_w,i32_w]
        rfl
       exact norm_ D18 (hCont (.slice Ao31 t312.length co31, .slice Ao30 t315.length co30,gb318) _ ⟨hHeld,D28,D27,(yB BK308),(yB BK309),(yB BK318),GW318.out,GE318.out,NB308_318.out,NB318_308.out,NB309_318.out,NB318_309.out,(yW HB)⟩)
      skip
      refine box_step ?hg (N:=6) ?hd (cs:=#[.slice none 0 0, .slice none 0 0]) (t:=27) ?hr ?_;(case hd=>rfl);(case hg=>rfl);(case hr=>first|(go_simp;done)|(go_simp;rfl))
      intro gb318 hg w29 hbox hb
      replace HO314:=bR HO314 hb
      have BK318:=am (hbox)
      have GW318:=ye HB hg
      replace HB:=yH HB hb
      have NB308_318:=yl BK308 hg
      have NB318_308:=yg BK308 hg
      replace BK308:=yb BK308 hb
      have NB309_318:=yl BK309 hg
      have NB318_309:=yg BK309 hg
      replace BK309:=yb BK309 hb
      have GE318:=GW318
      clear hb hbox hg
      refine hK.out _ _ ⟨(blk_cell BK308.out 0).trans rfl,(blk_cell BK308.out 1).trans rfl⟩ (fun hHeld=>?_)
      clear hK K
      refine norm_ (a':=?_) ?_ ?_
      rotate_left
      ·show Act.put _ (some 6) _=_
       simp only [Act.put,q1,q2,q3,i64_w,i32_w]
       rfl
      refine one_ (i:=5) (N:=some 46) #[Y,Y,Y,Y,Y,Y,Z,Y,Z] rfl rfl (one_of HT_.out D2) D6 (fun K hK=>?_)
      refine goes_ Try.func97 D2 rfl #[.slice A0_1 l0_1.length c0_1] D10 rfl rfl D4 ?_
      with_reducible refine (slices_Clone_string_string.calls _ _ l0_1 t315 _ ?side1 ?side2 A25.out).mono ?_
      (case side1=>repeat (first|exact (Kd.C_below HR0_1.out HB.out)|(with_reducible refine Kd.C_alloc ?_ _)|(with_reducible refine Kd.C_drewN ?_ _)|(with_reducible refine Kd.C_drew ?_)))
      (case side2=>exact HC0_1.out)
      rintro e w30 ⟨v316,rfl,ho0,hb⟩
      refine ⟨_,rfl,?_⟩
      have HO317:=am (Kd.R_lower (Kd.R_new' ho0 (Kd.R_lt (yR HO314))) (pz (yW HB)))
      replace HO314:=eR HO314 (Kd.R_base ho0) hb
      replace BK308:=yb BK308 hb
      replace BK309:=yb BK309 hb
      replace BK318:=yb BK318 hb
      replace HB:=yH HB hb
      (try clear hb)
      (try clear hb2)
      (try clear hk)
      (try clear hi)
      (try clear ho0)
      obtain ⟨Ao31,co31,eo31⟩:=Kd.R_slice HO317.out
      (first|subst eo31|(injection eo31 with f1_ f2_ f3_;have f4_:=f1_.symm;have f5_:=f3_.symm;clear f1_ f2_ f3_;subst f4_;subst f5_))
      obtain ⟨Ao32,co32,eo32⟩:=Kd.R_slice HO314.out
      (first|subst eo32|(injection eo32 with f1_ f2_ f3_;have f4_:=f1_.symm;have f5_:=f3_.symm;clear f1_ f2_ f3_;subst f4_;subst f5_))
      refine hK.out _ _ ⟨(blk_cell BK308.out 0).trans rfl,(blk_cell BK308.out 1).trans rfl⟩ (fun hHeld=>?_)
      clear hK K
      refine norm_ (a':=?_) ?_ ?_
      rotate_left
      ·show Act.put _ (some 46) _=_
       simp only [Act.put,q1,q2,q3,i64_w,i32_w]
       rfl
      refine pure_ (i:=6) (N:=some 47) (v:=?_) (a':=?_) #[Y,Y,Y,Y,Y,Y,Y,Y,Z] rfl rfl (any_of HT_.out D2) hh (Or.inl ⟨D10,?_⟩) ?_ ?_
      rotate_left
      ·intro w'
       go_simp
       with_reducible rfl
      rotate_left
      ·simp only [Act.put,q1,q2,q3,i64_w,i32_w]
       rfl
      exact norm_ D18 (hCont (.slice Ao32 t312.length co32, .slice Ao31 t315.length co31,gb318) _ ⟨hHeld,D28,D27,(yB BK308),(yB BK309),(yB BK318),GW318.out,GE318.out,NB308_318.out,NB318_308.out,NB309_318.out,NB318_309.out,(yW HB)⟩)
     skip
     refine box_step ?hg (N:=6) ?hd (cs:=#[.slice none 0 0, .slice none 0 0]) (t:=27) ?hr ?_;(case hd=>rfl);(case hg=>rfl);(case hr=>first|(go_simp;done)|(go_simp;rfl))
     intro gb318 hg w28 hbox hb
     have BK318:=am (hbox)
     have GW318:=ye HB hg
     replace HB:=yH HB hb
     have NB308_318:=yl BK308 hg
     have NB318_308:=yg BK308 hg
     replace BK308:=yb BK308 hb
     have NB309_318:=yl BK309 hg
     have NB318_309:=yg BK309 hg
     replace BK309:=yb BK309 hb
     have GE318:=GW318
     clear hb hbox hg
     refine hK.out _ _ ⟨(blk_cell BK308.out 0).trans rfl,(blk_cell BK308.out 1).trans rfl⟩ (fun hHeld=>?_)
     clear hK K
     refine norm_ (a':=?_) ?_ ?_
     rotate_left
     ·show Act.put _ (some 6) _=_
      simp only [Act.put,q1,q2,q3,i64_w,i32_w]
      rfl
     refine one_ (i:=2) (N:=some 43) #[Y,Y,Y,Y,Y,Z,Z,Y,Z] rfl rfl (one_of HT_.out D2) D6 (fun K hK=>?_)
     refine goes_ Try.func97 D2 rfl #[.slice A0_0 l0_0.length c0_0] D10 rfl rfl D4 ?_
     with_reducible refine (slices_Clone_string_string.calls _ _ l0_0 t312 _ ?side1 ?side2 A24.out).mono ?_
     (case side1=>repeat (first|exact (Kd.C_below HR0_0.out HB.out)|(with_reducible refine Kd.C_alloc ?_ _)|(with_reducible refine Kd.C_drewN ?_ _)|(with_reducible refine Kd.C_drew ?_)))
     (case side2=>exact HC0_0.out)
     rintro e w29 ⟨v313,rfl,ho0,hb⟩
     refine ⟨_,rfl,?_⟩
     have HO314:=am (Kd.R_lower ho0 (pz (yW HB)))
     replace BK308:=yb BK308 hb
     replace BK309:=yb BK309 hb
     replace BK318:=yb BK318 hb
     replace HB:=yH HB hb
     (try clear hb)
     (try clear hb2)
     (try clear hk)
     (try clear hi)
     (try clear ho0)
     refine hK.out _ _ ⟨(blk_cell BK308.out 0).trans rfl,(blk_cell BK308.out 1).trans rfl⟩ (fun hHeld=>?_)
     clear hK K
     refine norm_ (a':=?_) ?_ ?_
     rotate_left
     ·show Act.put _ (some 43) _=_
      simp only [Act.put,q1,q2,q3,i64_w,i32_w]
      rfl
     refine one_ (i:=5) (N:=some 46) #[Y,Y,Y,Y,Y,Y,Z,Y,Z] rfl rfl (one_of HT_.out D2) D6 (fun K hK=>?_)
     refine goes_ Try.func97 D2 rfl #[.slice A0_1 l0_1.length c0_1] D10 rfl rfl D4 ?_
     with_reducible refine (slices_Clone_string_string.calls _ _ l0_1 t315 _ ?side1 ?side2 A25.out).mono ?_
     (case side1=>repeat (first|exact (Kd.C_below HR0_1.out HB.out)|(with_reducible refine Kd.C_alloc ?_ _)|(with_reducible refine Kd.C_drewN ?_ _)|(with_reducible refine Kd.C_drew ?_)))
     (case side2=>exact HC0_1.out)
     rintro e w30 ⟨v316,rfl,ho0,hb⟩
     refine ⟨_,rfl,?_⟩
     have HO317:=am (Kd.R_lower (Kd.R_new' ho0 (Kd.R_lt (yR HO314))) (pz (yW HB)))
     replace HO314:=eR HO314 (Kd.R_base ho0) hb
     replace BK308:=yb BK308 hb
     replace BK309:=yb BK309 hb
     replace BK318:=yb BK318 hb
     replace HB:=yH HB hb
     (try clear hb)
     (try clear hb2)
     (try clear hk)
     (try clear hi)
     (try clear ho0)
     obtain ⟨Ao31,co31,eo31⟩:=Kd.R_slice HO317.out
     (first|subst eo31|(injection eo31 with f1_ f2_ f3_;have f4_:=f1_.symm;have f5_:=f3_.symm;clear f1_ f2_ f3_;subst f4_;subst f5_))
     obtain ⟨Ao32,co32,eo32⟩:=Kd.R_slice HO314.out
     (first|subst eo32|(injection eo32 with f1_ f2_ f3_;have f4_:=f1_.symm;have f5_:=f3_.symm;clear f1_ f2_ f3_;subst f4_;subst f5_))
     refine hK.out _ _ ⟨(blk_cell BK308.out 0).trans rfl,(blk_cell BK308.out 1).trans rfl⟩ (fun hHeld=>?_)
     clear hK K
     refine norm_ (a':=?_) ?_ ?_
     rotate_left
     ·show Act.put _ (some 46) _=_
      simp only [Act.put,q1,q2,q3,i64_w,i32_w]
      rfl
     refine pure_ (i:=6) (N:=some 47) (v:=?_) (a':=?_) #[Y,Y,Y,Y,Y,Y,Y,Y,Z] rfl rfl (any_of HT_.out D2) hh (Or.inl ⟨D10,?_⟩) ?_ ?_
     rotate_left
     ·intro w'
      go_simp
      with_reducible rfl
     rotate_left
     ·simp only [Act.put,q1,q2,q3,i64_w,i32_w]
      rfl
     exact norm_ D18 (hCont (.slice Ao32 t312.length co32, .slice Ao31 t315.length co31,gb318) _ ⟨hHeld,D28,D27,(yB BK308),(yB BK309),(yB BK318),GW318.out,GE318.out,NB308_318.out,NB318_308.out,NB309_318.out,NB318_309.out,(yW HB)⟩)
    rintro ⟨v313,v316,gb318⟩ w33 ⟨hS_,h0_,h1_,h2_,h3_,h4_,h5_,h6_,h7_,h8_,h9_,h10_,h11_⟩
    have n0_:Aside0 (Kd.R Kd.string 9 w33 w.heap.size (fun k_=>some k_ ≠ (v316:Value).ownBlock) v313 t312):=⟨h0_⟩
    have n1_:Aside0 (Kd.R Kd.string 9 w33 w.heap.size (fun k_=>some k_ ≠ (v313:Value).ownBlock) v316 t315):=⟨h1_⟩
    have n2_:Aside0 (w33.heap[gb308]? = some (.cells #[.slice A0_0 l0_0.length c0_0, .slice A0_1 l0_1.length c0_1] 27 (0,0))):=⟨h2_⟩
    have n3_:Aside0 (w33.heap[gb309]? = some (.cells #[.slice none 0 0, .slice none 0 0] 27 (0,0))):=⟨h3_⟩
    have n4_:Aside0 (w33.heap[gb318]? = some (.cells #[.slice none 0 0, .slice none 0 0] 27 (0,0))):=⟨h4_⟩
    have n5_:Aside0 (w.heap.size≤gb318):=⟨h5_⟩
    have n6_:Aside0 (w.heap.size≤gb318):=⟨h6_⟩
    have n7_:Aside0 (gb308 ≠ gb318):=⟨h7_⟩
    have n8_:Aside0 (gb318 ≠ gb308):=⟨h8_⟩
    have n9_:Aside0 (gb309 ≠ gb318):=⟨h9_⟩
    have n10_:Aside0 (gb318 ≠ gb309):=⟨h10_⟩
    have n11_:Aside0 (Below w.heap.size w w33):=⟨h11_⟩
    clear BK308
    clear BK309
    clear HB
    clear h0_ h1_ h2_ h3_ h4_ h5_ h6_ h7_ h8_ h9_ h10_ h11_
    have HO314:=n0_
    have HO317:=n1_
    have BK308:=n2_
    have BK309:=n3_
    have BK318:=n4_
    have GW318:=n5_
    have GE318:=n6_
    have NB308_318:=n7_
    have NB318_308:=n8_
    have NB309_318:=n9_
    have NB318_309:=n10_
    have HB:=n11_
    clear n0_ n1_ n2_ n3_ n4_ n5_ n6_ n7_ n8_ n9_ n10_ n11_
    have hHeld:w33.cell? ⟨gb308,0,none⟩=some (.slice A0_0 l0_0.length c0_0)∧w33.cell? ⟨gb308,1,none⟩=some (.slice A0_1 l0_1.length c0_1):=hS_
    obtain ⟨Ao34,co34,eo34⟩:=Kd.R_slice HO317.out
    (first|subst eo34|(injection eo34 with f1_ f2_ f3_;have f4_:=f1_.symm;have f5_:=f3_.symm;clear f1_ f2_ f3_;subst f4_;subst f5_))
    obtain ⟨Ao35,co35,eo35⟩:=Kd.R_slice HO314.out
    (first|subst eo35|(injection eo35 with f1_ f2_ f3_;have f4_:=f1_.symm;have f5_:=f3_.symm;clear f1_ f2_ f3_;subst f4_;subst f5_))
    refine norm_ (a':=?_) ?_ ?_
    rotate_left
    ·simp only [putAll,Act.put,q1,q2,q3]
     rfl
    refine one_ (i:=8) (N:=none) #[Y,Y,Y,Y,Y,Y,Y,Y,Y] rfl rfl (one_of HT_.out D2) D6 (fun K hK=>?_)
    have hs36:w33.cell? ⟨gb318,0,none⟩=some (.slice none 0 0):=(blk_cell BK318.out 0).trans rfl
    have hfs36:=blk_frozen BK318.out 0
    have hns36_0:=NB308_318.out
    have hns36_1:=NB309_318.out
    have hms36_0:=NB318_308.out
    have hms36_1:=NB318_309.out
    have hs37:w33.cell? ⟨gb318,1,none⟩=some (.slice none 0 0):=(blk_cell BK318.out 1).trans rfl
    have hfs37:=blk_frozen BK318.out 1
    have hns37_0:=NB308_318.out
    have hns37_1:=NB309_318.out
    have hms37_0:=NB318_308.out
    have hms37_1:=NB318_309.out
    refine skip_ (w1:=?_) D10 rfl ?_ ?_
    rotate_left
    ·go_simp
     rfl
    refine hK.out _ _ ⟨((cell_far (p:=⟨gb318,_,none⟩) NB308_318.out _).trans (((cell_far (p:=⟨gb318,_,none⟩) NB308_318.out _).trans (hHeld.1)))),((cell_far (p:=⟨gb318,_,none⟩) NB308_318.out _).trans (((cell_far (p:=⟨gb318,_,none⟩) NB308_318.out _).trans (hHeld.2))))⟩ (fun hHeld=>?_)
    clear hK K
    refine done_ (done_of HT_.out D2) ?_
    have hnb38:=NB318_308.out
    have hnc38:=NB308_318.out
    have hnb39:=NB318_309.out
    have hnc39:=NB309_318.out
    obtain ⟨hcz40_0,hcz40_1,hfz40_0,hfz40_1⟩:=yk2 BK318
    have hnb41:=NB309_308.out
    have hnc41:=NB308_309.out
    obtain ⟨hcz42_0,hcz42_1,hfz42_0,hfz42_1⟩:=yk2 BK309
    try go_wp2
    refine bodyPost_ret (results_ct rfl _ _ gb309 27 #[.slice Ao35 t312.length co35, .slice Ao34 t315.length co34] (0,0) _ rfl (by refine sB ?_;refine blk_put (cs:=#[.slice Ao35 t312.length co35, .slice none 0 0]) ?_ 1 _ rfl;refine sB ?_;refine blk_put (cs:=#[.slice none 0 0, .slice none 0 0]) ?_ 0 _ rfl;exact yF BK309) Try.underlying27 rfl D2) rfl ?_
    exact ⟨_,_,D3,by refine sR ?_;exact Kd.R_mono (Kd.R_far (p:=⟨gb309,1,none⟩) (Kd.R_far (p:=⟨gb309,0,none⟩) (Kd.R_far (p:=⟨gb318,1,none⟩) (Kd.R_far (p:=⟨gb318,0,none⟩) (Kd.R_types (Kd.R_types HO314.out BK318.out D6) BK309.out D6) (fun _ hk=>hk.1.2) (.slice Ao35 t312.length co35)) (fun _ hk=>hk.1.2) (.slice Ao34 t315.length co34)) (fun _ hk=>hk.2) (.slice Ao35 t312.length co35)) (fun _ hk=>hk.2) (.slice Ao34 t315.length co34)) (fun _ hk=>hk.1.1),by refine sR ?_;exact Kd.R_mono (Kd.R_far (p:=⟨gb309,1,none⟩) (Kd.R_far (p:=⟨gb309,0,none⟩) (Kd.R_far (p:=⟨gb318,1,none⟩) (Kd.R_far (p:=⟨gb318,0,none⟩) (Kd.R_types (Kd.R_types HO317.out BK318.out D6) BK309.out D6) (fun _ hk=>hk.1.2) (.slice Ao35 t312.length co35)) (fun _ hk=>hk.1.2) (.slice Ao34 t315.length co34)) (fun _ hk=>hk.2) (.slice Ao35 t312.length co35)) (fun _ hk=>hk.2) (.slice Ao34 t315.length co34)) (fun _ hk=>hk.1.1),yW HB⟩
   rw [if_neg c26] at H
   have c26b0:((l1.length:Int) == 0)=false:=beq_eq_false_iff_ne.mpr c26
   have c26b1:((l1.length:Int) != 0)=true:=bne_iff_ne.mpr c26
   have c26b2:¬ (l1=[]):=fun h_=>c26 (by rw [h_];rfl)
   have H':=am H
   clear H
   try go_wp2
   replace BK308:=am (qd BK308.out)
   replace BK309:=am (qd BK309.out)
   replace HB:=am (pd HB.out)
   refine start_ (n:=9) (S:=fun w'=>w'.cell? ⟨gb308,0,none⟩=some (.slice A0_0 l0_0.length c0_0)∧w'.cell? ⟨gb308,1,none⟩=some (.slice A0_1 l0_1.length c0_1)) (ds:=[]) #[Z,Z,Z,Z,Z,Z,Z,Z,Z] D2 rfl rfl ⟨(blk_cell BK308.out 0).trans rfl,(blk_cell BK308.out 1).trans rfl⟩ (fun hHeld=>?_);refine with_tabW impl_MendStripe.tab3 impl_MendStripe.bits3 (fun HT_ HW_=>?_)
   generalize wc.drew=w43 at BK308 BK309 HB hHeld ⊢
   refine pure_ (i:=0) (N:=some 41) (v:=?_) (a':=?_) #[Y,Z,Z,Z,Z,Z,Z,Z,Z] rfl rfl (any_of HT_.out D2) hh (Or.inl ⟨D10,?_⟩) ?_ ?_
   rotate_left
   ·intro w'
    go_simp
    with_reducible rfl
   rotate_left
   ·simp only [Act.put,q1,q2,q3,i64_w,i32_w]
    rfl
   refine pure_ (i:=3) (N:=some 44) (v:=?_) (a':=?_) #[Y,Z,Z,Y,Z,Z,Z,Z,Z] rfl rfl (any_of HT_.out D2) hh (Or.inl ⟨D10,?_⟩) ?_ ?_
   rotate_left
   ·intro w'
    go_simp
    with_reducible rfl
   rotate_left
   ·simp only [Act.put,q1,q2,q3,i64_w,i32_w]
    rfl
   refine take_ (i:=1) (N:=some 42) (v:=?_) (a':=?_) #[Y,Y,Z,Y,Z,Z,Z,Z,Z] rfl rfl (take_ofW HT_.out HW_.out D2) hh (Or.inl ⟨D10,?_⟩) hHeld ?_ ?_
   rotate_left
   ·rintro w' ⟨s0,s1⟩
    go_simp
    with_reducible rfl
   rotate_left
   ·simp only [Act.put,q1,q2,q3,i64_w,i32_w]
    rfl
   refine take_ (i:=4) (N:=some 45) (v:=?_) (a':=?_) #[Y,Y,Z,Y,Y,Z,Z,Z,Z] rfl rfl (take_ofW HT_.out HW_.out D2) hh (Or.inl ⟨D10,?_⟩) hHeld ?_ ?_
   rotate_left
   ·rintro w' ⟨s0,s1⟩
    go_simp
    with_reducible rfl
   rotate_left
   ·simp only [Act.put,q1,q2,q3,i64_w,i32_w]
    rfl
   refine join_ (σ:=Value × Value × Nat) 1 #[Y,Y,Y,Y,Y,Y,Y,Y,Z] (fun s_=>[(43,s_.1),(46,s_.2.1),(6, .pointer (some ⟨s_.2.2,0,none⟩)),(47, .agg #[s_.1,s_.2.1])]) (fun s_ w'=>(w'.cell? ⟨gb308,0,none⟩=some (.slice A0_0 l0_0.length c0_0)∧w'.cell? ⟨gb308,1,none⟩=some (.slice A0_1 l0_1.length c0_1))∧(Kd.R Kd.string 9 w' w.heap.size (fun k_=>some k_ ≠ (s_.2.1:Value).ownBlock) s_.1 t312)∧(Kd.R Kd.string 9 w' w.heap.size (fun k_=>some k_ ≠ (s_.1:Value).ownBlock) s_.2.1 t315)∧(w'.heap[gb308]? = some (.cells #[.slice A0_0 l0_0.length c0_0, .slice A0_1 l0_1.length c0_1] 27 (0,0)))∧(w'.heap[gb309]? = some (.cells #[.slice none 0 0, .slice none 0 0] 27 (0,0)))∧(w'.heap[s_.2.2]? = some (.cells #[.slice none 0 0, .slice none 0 0] 27 (0,0)))∧(w.heap.size≤s_.2.2)∧(w.heap.size≤s_.2.2)∧(gb308 ≠ s_.2.2)∧(s_.2.2 ≠ gb308)∧(gb309 ≠ s_.2.2)∧(s_.2.2 ≠ gb309)∧(Below w.heap.size w w')) ?_ ?_
   rotate_left
   ·intro hCont
    refine two_ (i:=2) (j:=7) (Ni:=some 43) (Nj:=some 6) #[Y,Y,Y,Y,Y,Z,Z,Z,Z] #[Y,Y,Z,Y,Y,Z,Z,Y,Z] rfl rfl rfl rfl (two_of HT_.out D2) D6 D6 (fun K hK=>?_) (fun K hK=>?_)
    ·skip
     refine goes_ Try.func97 D2 rfl #[.slice A0_0 l0_0.length c0_0] D10 rfl rfl D4 ?_
     with_reducible refine (slices_Clone_string_string.calls _ _ l0_0 t312 _ ?side1 ?side2 A24.out).mono ?_
     (case side1=>repeat (first|exact (Kd.C_below HR0_0.out HB.out)|(with_reducible refine Kd.C_alloc ?_ _)|(with_reducible refine Kd.C_drewN ?_ _)|(with_reducible refine Kd.C_drew ?_)))
     (case side2=>exact HC0_0.out)
     rintro e w44 ⟨v313,rfl,ho0,hb⟩
     refine ⟨_,rfl,?_⟩
     have HO314:=am (Kd.R_lower ho0 (pz (yW HB)))
     replace BK308:=yb BK308 hb
     replace BK309:=yb BK309 hb
     replace HB:=yH HB hb
     (try clear hb)
     (try clear hb2)
     (try clear hk)
     (try clear hi)
     (try clear ho0)
     refine hK.out _ _ ⟨(blk_cell BK308.out 0).trans rfl,(blk_cell BK308.out 1).trans rfl⟩ (fun hHeld=>?_)
     clear hK K
     refine norm_ (a':=?_) ?_ ?_
     rotate_left
     ·show Act.put _ (some 43) _=_
      simp only [Act.put,q1,q2,q3,i64_w,i32_w]
      rfl
     refine two_ (i:=5) (j:=7) (Ni:=some 46) (Nj:=some 6) #[Y,Y,Y,Y,Y,Y,Z,Z,Z] #[Y,Y,Y,Y,Y,Z,Z,Y,Z] rfl rfl rfl rfl (two_of HT_.out D2) D6 D6 (fun K hK=>?_) (fun K hK=>?_)
     ·skip
      refine goes_ Try.func97 D2 rfl #[.slice A0_1 l0_1.length c0_1] D10 rfl rfl D4 ?_
      with_reducible refine (slices_Clone_string_string.calls _ _ l0_1 t315 _ ?side1 ?side2 A25.out).mono ?_
      (case side1=>repeat (first|exact (Kd.C_below HR0_1.out HB.out)|(with_reducible refine Kd.C_alloc ?_ _)|(with_reducible refine Kd.C_drewN ?_ _)|(with_reducible refine Kd.C_drew ?_)))
      (case side2=>exact HC0_1.out)
      rintro e w45 ⟨v316,rfl,ho0,hb⟩
      refine ⟨_,rfl,?_⟩
      have HO317:=am (Kd.R_lower (Kd.R_new' ho0 (Kd.R_lt (yR HO314))) (pz (yW HB)))
      replace HO314:=eR HO314 (Kd.R_base ho0) hb
      replace BK308:=yb BK308 hb
      replace BK309:=yb BK309 hb
      replace HB:=yH HB hb
      (try clear hb)
      (try clear hb2)
      (try clear hk)
      (try clear hi)
      (try clear ho0)
      obtain ⟨Ao46,co46,eo46⟩:=Kd.R_slice HO317.out
      (first|subst eo46|(injection eo46 with f1_ f2_ f3_;have f4_:=f1_.symm;have f5_:=f3_.symm;clear f1_ f2_ f3_;subst f4_;subst f5_))
      obtain ⟨Ao47,co47,eo47⟩:=Kd.R_slice HO314.out
      (first|subst eo47|(injection eo47 with f1_ f2_ f3_;have f4_:=f1_.symm;have f5_:=f3_.symm;clear f1_ f2_ f3_;subst f4_;subst f5_))
      refine hK.out _ _ ⟨(blk_cell BK308.out 0).trans rfl,(blk_cell BK308.out 1).trans rfl⟩ (fun hHeld=>?_)
      clear hK K
      refine norm_ (a':=?_) ?_ ?_
      rotate_left
      ·show Act.put _ (some 46) _=_
       simp only [Act.put,q1,q2,q3,i64_w,i32_w]
       rfl
      refine pure_ (i:=6) (N:=some 47) (v:=?_) (a':=?_) #[Y,Y,Y,Y,Y,Y,Y,Z,Z] rfl rfl (any_of HT_.out D2) hh (Or.inl ⟨D10,?_⟩) ?_ ?_
      rotate_left
      ·intro w'
       go_simp
       with_reducible rfl
      rotate_left
      ·simp only [Act.put,q1,q2,q3,i64_w,i32_w]
       rfl
      refine one_ (i:=7) (N:=some 6) #[Y,Y,Y,Y,Y,Y,Y,Y,Z] rfl rfl (one_of HT_.out D2) D6 (fun K hK=>?_)
      refine box_step ?hg (N:=6) ?hd (cs:=#[.slice none 0 0, .slice none 0 0]) (t:=27) ?hr ?_;(case hd=>rfl);(case hg=>rfl);(case hr=>first|(go_simp;done)|(go_simp;rfl))
      intro gb318 hg w48 hbox hb
      replace HO314:=bR HO314 hb
      replace HO317:=bR HO317 hb
      have BK318:=am (hbox)
      have GW318:=ye HB hg
      replace HB:=yH HB hb
      have NB308_318:=yl BK308 hg
      have NB318_308:=yg BK308 hg
      replace BK308:=yb BK308 hb
      have NB309_318:=yl BK309 hg
      have NB318_309:=yg BK309 hg
      replace BK309:=yb BK309 hb
      have GE318:=GW318
      clear hb hbox hg
      refine hK.out _ _ ⟨(blk_cell BK308.out 0).trans rfl,(blk_cell BK308.out 1).trans rfl⟩ (fun hHeld=>?_)
      clear hK K
      refine norm_ (a':=?_) ?_ ?_
      rotate_left
      ·show Act.put _ (some 6) _=_
       simp only [Act.put,q1,q2,q3,i64_w,i32_w]
       rfl
      exact norm_ D18 (hCont (.slice Ao47 t312.length co47, .slice Ao46 t315.length co46,gb318) _ ⟨hHeld,D28,D27,(yB BK308),(yB BK309),(yB BK318),GW318.out,GE318.out,NB308_318.out,NB318_308.out,NB309_318.out,NB318_309.out,(yW HB)⟩)
     skip
     refine box_step ?hg (N:=6) ?hd (cs:=#[.slice none 0 0, .slice none 0 0]) (t:=27) ?hr ?_;(case hd=>rfl);(case hg=>rfl);(case hr=>first|(go_simp;done)|(go_simp;rfl))
     intro gb318 hg w45 hbox hb
     replace HO314:=bR HO314 hb
     have BK318:=am (hbox)
     have GW318:=ye HB hg
     replace HB:=yH HB hb
     have NB308_318:=yl BK308 hg
     have NB318_308:=yg BK308 hg
     replace BK308:=yb BK308 hb
     have NB309_318:=yl BK309 hg
     have NB318_309:=yg BK309 hg
     replace BK309:=yb BK309 hb
     have GE318:=GW318
     clear hb hbox hg
     refine hK.out _ _ ⟨(blk_cell BK308.out 0).trans rfl,(blk_cell BK308.out 1).trans rfl⟩ (fun hHeld=>?_)
     clear hK K
     refine norm_ (a':=?_) ?_ ?_
     rotate_left
     ·show Act.put _ (some 6) _=_
      simp only [Act.put,q1,q2,q3,i64_w,i32_w]
      rfl
     refine one_ (i:=5) (N:=some 46) #[Y,Y,Y,Y,Y,Y,Z,Y,Z] rfl rfl (one_of HT_.out D2) D6 (fun K hK=>?_)
     refine goes_ Try.func97 D2 rfl #[.slice A0_1 l0_1.length c0_1] D10 rfl rfl D4 ?_
     with_reducible refine (slices_Clone_string_string.calls _ _ l0_1 t315 _ ?side1 ?side2 A25.out).mono ?_
     (case side1=>repeat (first|exact (Kd.C_below HR0_1.out HB.out)|(with_reducible refine Kd.C_alloc ?_ _)|(with_reducible refine Kd.C_drewN ?_ _)|(with_reducible refine Kd.C_drew ?_)))
     (case side2=>exact HC0_1.out)
     rintro e w46 ⟨v316,rfl,ho0,hb⟩
     refine ⟨_,rfl,?_⟩
     have HO317:=am (Kd.R_lower (Kd.R_new' ho0 (Kd.R_lt (yR HO314))) (pz (yW HB)))
     replace HO314:=eR HO314 (Kd.R_base ho0) hb
     replace BK308:=yb BK308 hb
     replace BK309:=yb BK309 hb
     replace BK318:=yb BK318 hb
     replace HB:=yH HB hb
     (try clear hb)
     (try clear hb2)
     (try clear hk)
     (try clear hi)
     (try clear ho0)
     obtain ⟨Ao47,co47,eo47⟩:=Kd.R_slice HO317.out
     (first|subst eo47|(injection eo47 with f1_ f2_ f3_;have f4_:=f1_.symm;have f5_:=f3_.symm;clear f1_ f2_ f3_;subst f4_;subst f5_))
     obtain ⟨Ao48,co48,eo48⟩:=Kd.R_slice HO314.out
     (first|subst eo48|(injection eo48 with f1_ f2_ f3_;have f4_:=f1_.symm;have f5_:=f3_.symm;clear f1_ f2_ f3_;subst f4_;subst f5_))
     refine hK.out _ _ ⟨(blk_cell BK308.out 0).trans rfl,(blk_cell BK308.out 1).trans rfl⟩ (fun hHeld=>?_)
     clear hK K
     refine norm_ (a':=?_) ?_ ?_
     rotate_left
     ·show Act.put _ (some 46) _=_
      simp only [Act.put,q1,q2,q3,i64_w,i32_w]
      rfl
     refine pure_ (i:=6) (N:=some 47) (v:=?_) (a':=?_) #[Y,Y,Y,Y,Y,Y,Y,Y,Z] rfl rfl (any_of HT_.out D2) hh (Or.inl ⟨D10,?_⟩) ?_ ?_
     rotate_left
     ·intro w'
      go_simp
      with_reducible rfl
     rotate_left
     ·simp only [Act.put,q1,q2,q3,i64_w,i32_w]
      rfl
     exact norm_ D18 (hCont (.slice Ao48 t312.length co48, .slice Ao47 t315.length co47,gb318) _ ⟨hHeld,D28,D27,(yB BK308),(yB BK309),(yB BK318),GW318.out,GE318.out,NB308_318.out,NB318_308.out,NB309_318.out,NB318_309.out,(yW HB)⟩)
    skip
    refine box_step ?hg (N:=6) ?hd (cs:=#[.slice none 0 0, .slice none 0 0]) (t:=27) ?hr ?_;(case hd=>rfl);(case hg=>rfl);(case hr=>first|(go_simp;done)|(go_simp;rfl))
    intro gb318 hg w44 hbox hb
    have BK318:=am (hbox)
    have GW318:=ye HB hg
    replace HB:=yH HB hb
    have NB308_318:=yl BK308 hg
    have NB318_308:=yg BK308 hg
    replace BK308:=yb BK308 hb
    have NB309_318:=yl BK309 hg
    have NB318_309:=yg BK309 hg
    replace BK309:=yb BK309 hb
    have GE318:=GW318
    clear hb hbox hg
    refine hK.out _ _ ⟨(blk_cell BK308.out 0).trans rfl,(blk_cell BK308.out 1).trans rfl⟩ (fun hHeld=>?_)
    clear hK K
    refine norm_ (a':=?_) ?_ ?_
    rotate_left
    ·show Act.put _ (some 6) _=_
     simp only [Act.put,q1,q2,q3,i64_w,i32_w]
     rfl
    refine one_ (i:=2) (N:=some 43) #[Y,Y,Y,Y,Y,Z,Z,Y,Z] rfl rfl (one_of HT_.out D2) D6 (fun K hK=>?_)
    refine goes_ Try.func97 D2 rfl #[.slice A0_0 l0_0.length c0_0] D10 rfl rfl D4 ?_
    with_reducible refine (slices_Clone_string_string.calls _ _ l0_0 t312 _ ?side1 ?side2 A24.out).mono ?_
    (case side1=>repeat (first|exact (Kd.C_below HR0_0.out HB.out)|(with_reducible refine Kd.C_alloc ?_ _)|(with_reducible refine Kd.C_drewN ?_ _)|(with_reducible refine Kd.C_drew ?_)))
    (case side2=>exact HC0_0.out)
    rintro e w45 ⟨v313,rfl,ho0,hb⟩
    refine ⟨_,rfl,?_⟩
    have HO314:=am (Kd.R_lower ho0 (pz (yW HB)))
    replace BK308:=yb BK308 hb
    replace BK309:=yb BK309 hb
    replace BK318:=yb BK318 hb
    replace HB:=yH HB hb
    (try clear hb)
    (try clear hb2)
    (try clear hk)
    (try clear hi)
    (try clear ho0)
    refine hK.out _ _ ⟨(blk_cell BK308.out 0).trans rfl,(blk_cell BK308.out 1).trans rfl⟩ (fun hHeld=>?_)
    clear hK K
    refine norm_ (a':=?_) ?_ ?_
    rotate_left
    ·show Act.put _ (some 43) _=_
     simp only [Act.put,q1,q2,q3,i64_w,i32_w]
     rfl
    refine one_ (i:=5) (N:=some 46) #[Y,Y,Y,Y,Y,Y,Z,Y,Z] rfl rfl (one_of HT_.out D2) D6 (fun K hK=>?_)
    refine goes_ Try.func97 D2 rfl #[.slice A0_1 l0_1.length c0_1] D10 rfl rfl D4 ?_
    with_reducible refine (slices_Clone_string_string.calls _ _ l0_1 t315 _ ?side1 ?side2 A25.out).mono ?_
    (case side1=>repeat (first|exact (Kd.C_below HR0_1.out HB.out)|(with_reducible refine Kd.C_alloc ?_ _)|(with_reducible refine Kd.C_drewN ?_ _)|(with_reducible refine Kd.C_drew ?_)))
    (case side2=>exact HC0_1.out)
    rintro e w46 ⟨v316,rfl,ho0,hb⟩
    refine ⟨_,rfl,?_⟩
    have HO317:=am (Kd.R_lower (Kd.R_new' ho0 (Kd.R_lt (yR HO314))) (pz (yW HB)))
    replace HO314:=eR HO314 (Kd.R_base ho0) hb
    replace BK308:=yb BK308 hb
    replace BK309:=yb BK309 hb
    replace BK318:=yb BK318 hb
    replace HB:=yH HB hb
    (try clear hb)
    (try clear hb2)
    (try clear hk)
    (try clear hi)
    (try clear ho0)
    obtain ⟨Ao47,co47,eo47⟩:=Kd.R_slice HO317.out
    (first|subst eo47|(injection eo47 with f1_ f2_ f3_;have f4_:=f1_.symm;have f5_:=f3_.symm;clear f1_ f2_ f3_;subst f4_;subst f5_))
    obtain ⟨Ao48,co48,eo48⟩:=Kd.R_slice HO314.out
    (first|subst eo48|(injection eo48 with f1_ f2_ f3_;have f4_:=f1_.symm;have f5_:=f3_.symm;clear f1_ f2_ f3_;subst f4_;subst f5_))
    refine hK.out _ _ ⟨(blk_cell BK308.out 0).trans rfl,(blk_cell BK308.out 1).trans rfl⟩ (fun hHeld=>?_)
    clear hK K
    refine norm_ (a':=?_) ?_ ?_
    rotate_left
    ·show Act.put _ (some 46) _=_
     simp only [Act.put,q1,q2,q3,i64_w,i32_w]
     rfl
    refine pure_ (i:=6) (N:=some 47) (v:=?_) (a':=?_) #[Y,Y,Y,Y,Y,Y,Y,Y,Z] rfl rfl (any_of HT_.out D2) hh (Or.inl ⟨D10,?_⟩) ?_ ?_
    rotate_left
    ·intro w'
     go_simp
     with_reducible rfl
    rotate_left
    ·simp only [Act.put,q1,q2,q3,i64_w,i32_w]
     rfl
    exact norm_ D18 (hCont (.slice Ao48 t312.length co48, .slice Ao47 t315.length co47,gb318) _ ⟨hHeld,D28,D27,(yB BK308),(yB BK309),(yB BK318),GW318.out,GE318.out,NB308_318.out,NB318_308.out,NB309_318.out,NB318_309.out,(yW HB)⟩)
   rintro ⟨v313,v316,gb318⟩ w49 ⟨hS_,h0_,h1_,h2_,h3_,h4_,h5_,h6_,h7_,h8_,h9_,h10_,h11_⟩
   have n0_:Aside0 (Kd.R Kd.string 9 w49 w.heap.size (fun k_=>some k_ ≠ (v316:Value).ownBlock) v313 t312):=⟨h0_⟩
   have n1_:Aside0 (Kd.R Kd.string 9 w49 w.heap.size (fun k_=>some k_ ≠ (v313:Value).ownBlock) v316 t315):=⟨h1_⟩
   have n2_:Aside0 (w49.heap[gb308]? = some (.cells #[.slice A0_0 l0_0.length c0_0, .slice A0_1 l0_1.length c0_1] 27 (0,0))):=⟨h2_⟩
   have n3_:Aside0 (w49.heap[gb309]? = some (.cells #[.slice none 0 0, .slice none 0 0] 27 (0,0))):=⟨h3_⟩
   have n4_:Aside0 (w49.heap[gb318]? = some (.cells #[.slice none 0 0, .slice none 0 0] 27 (0,0))):=⟨h4_⟩
   have n5_:Aside0 (w.heap.size≤gb318):=⟨h5_⟩
   have n6_:Aside0 (w.heap.size≤gb318):=⟨h6_⟩
   have n7_:Aside0 (gb308 ≠ gb318):=⟨h7_⟩
   have n8_:Aside0 (gb318 ≠ gb308):=⟨h8_⟩
   have n9_:Aside0 (gb309 ≠ gb318):=⟨h9_⟩
   have n10_:Aside0 (gb318 ≠ gb309):=⟨h10_⟩
   have n11_:Aside0 (Below w.heap.size w w49):=⟨h11_⟩
   clear BK308
   clear BK309
   clear HB
   clear h0_ h1_ h2_ h3_ h4_ h5_ h6_ h7_ h8_ h9_ h10_ h11_
   have HO314:=n0_
   have HO317:=n1_
   have BK308:=n2_
   have BK309:=n3_
   have BK318:=n4_
   have GW318:=n5_
   have GE318:=n6_
   have NB308_318:=n7_
   have NB318_308:=n8_
   have NB309_318:=n9_
   have NB318_309:=n10_
   have HB:=n11_
   clear n0_ n1_ n2_ n3_ n4_ n5_ n6_ n7_ n8_ n9_ n10_ n11_
   have hHeld:w49.cell? ⟨gb308,0,none⟩=some (.slice A0_0 l0_0.length c0_0)∧w49.cell? ⟨gb308,1,none⟩=some (.slice A0_1 l0_1.length c0_1):=hS_
   obtain ⟨Ao50,co50,eo50⟩:=Kd.R_slice HO317.out
   (first|subst eo50|(injection eo50 with f1_ f2_ f3_;have f4_:=f1_.symm;have f5_:=f3_.symm;clear f1_ f2_ f3_;subst f4_;subst f5_))
   obtain ⟨Ao51,co51,eo51⟩:=Kd.R_slice HO314.out
   (first|subst eo51|(injection eo51 with f1_ f2_ f3_;have f4_:=f1_.symm;have f5_:=f3_.symm;clear f1_ f2_ f3_;subst f4_;subst f5_))
   refine norm_ (a':=?_) ?_ ?_
   rotate_left
   ·simp only [putAll,Act.put,q1,q2,q3]
    rfl
   refine one_ (i:=8) (N:=none) #[Y,Y,Y,Y,Y,Y,Y,Y,Y] rfl rfl (one_of HT_.out D2) D6 (fun K hK=>?_)
   have hs52:w49.cell? ⟨gb318,0,none⟩=some (.slice none 0 0):=(blk_cell BK318.out 0).trans rfl
   have hfs52:=blk_frozen BK318.out 0
   have hns52_0:=NB308_318.out
   have hns52_1:=NB309_318.out
   have hms52_0:=NB318_308.out
   have hms52_1:=NB318_309.out
   have hs53:w49.cell? ⟨gb318,1,none⟩=some (.slice none 0 0):=(blk_cell BK318.out 1).trans rfl
   have hfs53:=blk_frozen BK318.out 1
   have hns53_0:=NB308_318.out
   have hns53_1:=NB309_318.out
   have hms53_0:=NB318_308.out
   have hms53_1:=NB318_309.out
   refine skip_ (w1:=?_) D10 rfl ?_ ?_
   rotate_left
   ·go_simp
    rfl
   refine hK.out _ _ ⟨((cell_far (p:=⟨gb318,_,none⟩) NB308_318.out _).trans (((cell_far (p:=⟨gb318,_,none⟩) NB308_318.out _).trans (hHeld.1)))),((cell_far (p:=⟨gb318,_,none⟩) NB308_318.out _).trans (((cell_far (p:=⟨gb318,_,none⟩) NB308_318.out _).trans (hHeld.2))))⟩ (fun hHeld=>?_)
   clear hK K
   refine done_ (done_of HT_.out D2) ?_
   try go_wp2
   go_loopg [54] kj2 (fun kq v54 w'=>∃ (x54_2:Int) (x319000_2:List ByteArray) (x319001_2:List ByteArray) (u319000:Value) (u319001:Value),v54 = .int .i64 x54_2∧Aside0 (impl_MendStripe.l0 kq l1 l1 (l1.length:Int) x54_2 l0_0 l0_1 x319000_2 x319001_2=some (r1,r2,r3))∧Aside0 (kq≤kj2)∧Aside0 (Kd.R Kd.string 9 w' w.heap.size (fun k_=>some k_ ≠ (u319001:Value).ownBlock) u319000 x319000_2)∧Aside0 (Kd.R Kd.string 9 w' w.heap.size (fun k_=>some k_ ≠ (u319000:Value).ownBlock) u319001 x319001_2)∧Aside0 (w'.heap[gb308]? = some (.cells #[(.slice A0_0 l0_0.length c0_0),(.slice A0_1 l0_1.length c0_1)] 27 (0,0)))∧Aside0 (w'.heap[gb309]? = some (.cells #[(.slice none 0 0),(.slice none 0 0)] 27 (0,0)))∧Aside0 (w'.heap[gb318]? = some (.cells #[u319000,u319001] 27 (0,0)))∧Aside0 (Below w.heap.size w w'))
   case atStart=>exact ⟨(0),(t312),(t315),(.slice Ao51 t312.length co51),(.slice Ao50 t315.length co50),D1,H',⟨Nat.le_refl _⟩,⟨by refine sR ?_;exact Kd.R_mono (Kd.R_far (p:=⟨gb318,1,none⟩) (Kd.R_far (p:=⟨gb318,0,none⟩) (Kd.R_types HO314.out BK318.out D6) (fun _ hk=>hk.2) (.slice Ao51 t312.length co51)) (fun _ hk=>hk.2) (.slice Ao50 t315.length co50)) (fun _ hk=>hk.1)⟩,⟨by refine sR ?_;exact Kd.R_mono (Kd.R_far (p:=⟨gb318,1,none⟩) (Kd.R_far (p:=⟨gb318,0,none⟩) (Kd.R_types HO317.out BK318.out D6) (fun _ hk=>hk.2) (.slice Ao51 t312.length co51)) (fun _ hk=>hk.2) (.slice Ao50 t315.length co50)) (fun _ hk=>hk.1)⟩,⟨yF BK308⟩,⟨yF BK309⟩,⟨by refine sB ?_;refine blk_put (cs:=#[.slice Ao51 t312.length co51, .slice none 0 0]) ?_ 1 _ rfl;refine sB ?_;refine blk_put (cs:=#[.slice none 0 0, .slice none 0 0]) ?_ 0 _ rfl;exact yB BK318⟩,⟨yW HB⟩⟩
   case round =>
    clear H'
    try clear c2
    try clear p2
    try clear c3
    try clear c4
    try clear c9
    try clear c26
    try clear c26b0
    try clear c26b1
    try clear c26b2
    try clear c38
    try clear c39
    try clear c41
    try clear hcz40_0
    try clear hcz40_1
    try clear hcz42_0
    try clear hcz42_1
    try clear hfz40_0
    try clear hfz40_1
    try clear hfz42_0
    try clear hfz42_1
    obtain ⟨x54_2,x319000_2,x319001_2,u319000,u319001,rfl,HA,HK2,HO_319000,HO_319001,BK308,BK309,BK318,HB⟩:=hrel
    cases gk with
    | zero=>exact absurd HA.out (by simp [impl_MendStripe.l0])
    | succ k2 =>
     have H:=HA.out
     clear HA
     simp only [impl_MendStripe.l0] at H
     by_cases c54:x54_2 < (l1.length:Int)
     ·rw [if_pos c54] at H
      have c54b0:=decide_eq_true c54
      clear c54
      obtain ⟨c55,H⟩:=yi H
      have c55b0:=decide_eq_true c55
      clear c55
      obtain ⟨c56,H⟩:=yi H
      have c56b0:=decide_eq_true c56
      clear c56
      obtain ⟨c57,H⟩:=yi H
      have c57b0:=decide_eq_true c57
      clear c57
      obtain ⟨c58,H⟩:=yi H
      have c58b0:=decide_eq_true c58
      clear c58
      obtain ⟨c59,H⟩:=yi H
      have c59b0:=eq_true c59
      have c59b1:decide (0≤((rdOf ByteArray.empty l0_0 (rd l1 x54_2)).size:Int))=true:=decide_eq_true c59
      clear c59
      obtain ⟨c60,H⟩:=yi H
      have c60b0:=eq_true c60
      have c60b1:decide ((((rdOf ByteArray.empty l0_0 (rd l1 x54_2)).size:Int):Int).toNat≤281474976710656)=true:=decide_eq_true c60
      clear c60
      generalize hy321:(List.replicate (((rdOf ByteArray.empty l0_0 (rd l1 x54_2)).size:Int):Int).toNat 0:List Int)=y321 at H
      have Ny321:=am hy321.symm
      clear hy321
      obtain ⟨c61,H⟩:=yi H
      have c61b0:=decide_eq_true c61
      clear c61
      generalize hy324:(x319000_2.set ((rd l1 x54_2):Int).toNat (strOfNums y321):List ByteArray)=y324 at H
      have Ny324:=am hy324.symm
      clear hy324
      have H':=am H
      clear H
      have p319:0≤(x54_2:Int):=od D0
      have q319:x54_2 < (l1.length:Int):=od D0
      obtain ⟨ad319,e319,hx319_0⟩:=Kd.at_int HR1.out x54_2 p319 q319
      cases e319
      replace hx319_0:=(HB.out.cell (World.block_lt_of_cell? w _ hx319_0)).trans hx319_0
      replace p319:=eq_true p319
      replace q319:=eq_true q319
      try go_wp2
      replace HO_319000:=am (Kd.R_drew HO_319000.out)
      replace HO_319001:=am (Kd.R_drew HO_319001.out)
      replace BK308:=am (qd BK308.out)
      replace BK309:=am (qd BK309.out)
      replace BK318:=am (qd BK318.out)
      replace HB:=am (pd HB.out)
      have p320:0≤((rd l1 x54_2):Int):=od D0
      have q320:(rd l1 x54_2) < (l0_0.length:Int):=od D0
      obtain ⟨ad320,e320,hx320_0⟩:=Kd.at_string HR0_0.out (rd l1 x54_2) p320 q320
      have hw320_0:=hx320_0
      cases e320
      replace hx320_0:=(HB.out.cell (World.block_lt_of_cell? w _ hx320_0)).trans hx320_0
      replace p320:=eq_true p320
      replace q320:=eq_true q320
      refine rS (n:=13) (S:=fun w'=>w'.cell? ⟨gb318,0,none⟩=some (u319000)∧w'.cell? ⟨gb318,1,none⟩=some (u319001)∧w'.cell? ⟨gb308,0,none⟩=some (.slice (some ad320) l0_0.length c0_0)∧w'.cell? ⟨gb308,1,none⟩=some (.slice A0_1 l0_1.length c0_1)∧w'.cell? (ad320.add ((rd l1 x54_2)).toNat)=some (.string (rdOf ByteArray.empty l0_0 (rd l1 x54_2)))) (ds:=[12]) [(0,58),(2,60),(3,61),(5,63),(1,59),(4,62),(6,64),(7,65),(8,66),(9,0),(10,0),(11,69),(12,0)] D2 rfl impl_MendStripe.tab9 impl_MendStripe.bits9 ⟨(blk_cell BK318.out 0).trans rfl,(blk_cell BK318.out 1).trans rfl,(blk_cell BK308.out 0).trans rfl,(blk_cell BK308.out 1).trans rfl,((HB.out.cell (World.block_lt_of_cell? w _ hw320_0)).trans hw320_0)⟩ (fun hHeld HT_ HW_=>?_)
      generalize wr.drew=w63 at HO_319000 HO_319001 BK308 BK309 BK318 HB hx320_0 hHeld ⊢
      refine rR ?_
      refine rO (N:=some 67) HT_ rfl rfl D2 D6 (fun K hK=>?_)
      refine Kd.R_make_step (Kd.int .u8) _ 5 D10 (N:=67) rfl 57 _ _ rfl ((rdOf ByteArray.empty l0_0 (rd l1 x54_2)).size:Int) rfl rfl Try.underlying57 (.int .u8 0) 1 info5 rfl D6 D8 0 (ok:=fun _=>True) (okp:=fun _=>True) rfl (fun _ hk=>hk) trivial (od D0) (Nat.le_trans (Nat.mul_le_mul_right _ (od D0:((rdOf ByteArray.empty l0_0 (rd l1 x54_2)).size:Int).toNat≤281474976710656)) D8) (Below.refl _ _) (Nat.le_refl _) ?_
      intro v322 w64 ho65 hb hg_ hnew_
      clear hg_ hnew_
      (first|rw [← Ny321.out] at ho65|(simp only [Int.reduceToNat] at ho65;rw [← Ny321.out] at ho65))
      replace HO_319000:=bR HO_319000 hb
      replace HO_319001:=bR HO_319001 hb
      have HO323:=am (Kd.R_lower ho65 (pz (yW HB)))
      replace BK308:=yb BK308 hb
      replace BK309:=yb BK309 hb
      replace BK318:=yb BK318 hb
      replace HB:=yH HB hb
      clear hb ho65
      have p62:0≤((rd l1 x54_2):Int):=od D0
      have q62:((rd l1 x54_2):Int) < ((x319000_2.length:Int):Int):=od D0
      obtain ⟨go62,co62,eo62,gb62,gl62,cl62,HG62⟩:=Kd.R_form HO_319000.out D8
      (first|cases eo62|(injection eo62 with ea_ en_ ec_;(first|subst ea_|(injection ea_ with ea_;subst ea_));subst ec_;clear en_))
      have GB62:=am gb62
      have GG62:=am HG62
      clear gb62 gl62 HG62
      obtain ⟨hx62_0,hf62_0⟩:=Kd.R_celln (⟨#[]⟩:ByteArray) HO_319000.out ((rd l1 x54_2):Int) p62 q62
      replace p62:=eq_true p62
      replace q62:=eq_true q62
      have HP67:=Kd.R_putn HO_319000.out ((rd l1 x54_2):Int) (strOfNums y321)
      rw [← Ny324.out] at HP67
      have HQ67:=am HP67
      clear HP67
      refine hK.out _ _ ⟨(blk_cell BK318.out 0).trans rfl,(blk_cell BK318.out 1).trans rfl,(blk_cell BK308.out 0).trans rfl,(blk_cell BK308.out 1).trans rfl,((HB.out.cell (World.block_lt_of_cell? w _ hw320_0)).trans hw320_0)⟩ (fun hHeld=>?_)
      clear hK K
      refine rN (a':=?_) ?_ ?_
      rotate_left
      ·show Act.put _ (some 67) _=_
       simp only [Act.put,q1,q2,q3,i64_w,i32_w]
       rfl
      refine rO (N:=some 68) HT_ rfl rfl D2 D6 (fun K hK=>?_)
      have hcv66:=own_string (P:=Try.prog) Try.underlying57 Try.underlying5 Try.underlying9 (Kd.own_of_R HO323.out)
      refine value_ (w1:=?_) (v:=?_) D10 rfl ?_ ?_
      rotate_left 2
      ·go_simp
       constructor
       ·rfl
       rfl
      clear hcv66
      refine hK.out _ _ ⟨(blk_cell BK318.out 0).trans rfl,(blk_cell BK318.out 1).trans rfl,(blk_cell BK308.out 0).trans rfl,(blk_cell BK308.out 1).trans rfl,((HB.out.cell (World.block_lt_of_cell? w _ hw320_0)).trans hw320_0)⟩ (fun hHeld=>?_)
      clear hK K
      refine rN (a':=?_) ?_ ?_
      rotate_left
      ·show Act.put _ (some 68) _=_
       simp only [Act.put,q1,q2,q3,i64_w,i32_w]
       rfl
      refine rR ?_
      refine rL (N:=none) HT_ rfl rfl D2 D6 (fun K hK=>?_)
      refine skip_ (w1:=?_) D10 rfl ?_ ?_
      rotate_left
      ·go_simp
       rfl
      refine hK.out _ _ ?_
      clear hK K
      refine rD HT_ D2 ?_
      try go_wp2
      go_roundg k2
      case measure=>have:=HJ2.out;have:=HK2.out;omega
      case rel=>exact ⟨(wrap64 (x54_2+1)),(y324),(x319001_2),(.slice (some ⟨go62,0,none⟩) x319000_2.length co62),(u319001),D1,H',⟨by have:=HJ2.out;have:=HK2.out;omega⟩,⟨yR HQ67⟩,⟨by refine sR ?_;exact Kd.R_mono (Kd.R_far (p:=⟨go62,((rd l1 x54_2):Int).toNat,none⟩) (Kd.R_mono HO_319001.out (fun k_ hk=>(⟨hk,fun e_=>hk D45⟩:_∧k_ ≠ go62))) (fun _ hk=>hk.2) (.string (strOfNums y321))) (fun _ hk=>hk.1)⟩,⟨by refine sB ?_;refine blk_far ?_ (by have h_:=Kd.R_ne HO_319000.out BK308.out D6;intro e_;exact h_ D45) _;exact yB BK308⟩,⟨by refine sB ?_;refine blk_far ?_ (by have h_:=Kd.R_ne HO_319000.out BK309.out D6;intro e_;exact h_ D45) _;exact yB BK309⟩,⟨by refine sB ?_;refine blk_far ?_ (by have h_:=Kd.R_ne HO_319000.out BK318.out D6;intro e_;exact h_ D45) _;exact yB BK318⟩,⟨by repeat (first|(with_reducible first|exact HB.out|apply pa|apply pb|apply pd|refine pt ?_ GB62.out|refine pt ?_ GE308.out|refine pt ?_ GE309.out|refine pt ?_ GE318.out)|exact HB.out)⟩⟩
     rw [if_neg c54] at H
     have c54b0:=decide_eq_false c54
     clear c54
     obtain ⟨t325,A68,H⟩:=yo H
     obtain ⟨t328,A69,H⟩:=yo H
     by_cases c70:0≤(l1.length:Int)
     ·rw [if_pos c70] at H
      have c70b0:=eq_true c70
      have c70b1:decide (0≤(l1.length:Int))=true:=decide_eq_true c70
      clear c70
      obtain ⟨c71,H⟩:=yi H
      have c71b0:=eq_true c71
      have c71b1:decide ((l1.length:Int)≤(l0_1.length:Int))=true:=decide_eq_true c71
      clear c71
      obtain ⟨t332,A72,H⟩:=yo H
      generalize hy335:(([]:List (List Int)):List (List Int))=y335 at H
      have Ny335:=am hy335.symm
      clear hy335
      have H':=am H
      clear H
      have hnb73:=NB308_309.out
      have hnc73:=NB309_308.out
      have hnb74:=NB308_318.out
      have hnc74:=NB318_308.out
      obtain ⟨hcz75_0,hcz75_1,hfz75_0,hfz75_1⟩:=yk2 BK308
      try go_wp2_with (first|(refine gC 98 ?_;refine gM (some 76) Try.func98 (args:=#[.int .i64 (l0_0.length:Int), .int .i64 (l1.length:Int)]) (impl_parityRows.calls k2 (l0_0.length:Int) (l1.length:Int) t325 _ A68.out) ?_;rintro e w76 ⟨v326,rfl,ho0,hb⟩;refine ⟨_,rfl,?_⟩;replace HO_319000:=bR HO_319000 hb;replace HO_319001:=bR HO_319001 hb;have HO327:=am (Kd.S_lower ho0 (pz (yW HB)));replace BK308:=yb BK308 hb;replace BK309:=yb BK309 hb;replace BK318:=yb BK318 hb;replace HB:=yH HB hb;clear hb ho0))
      replace HO_319000:=am (Kd.R_drew HO_319000.out)
      replace HO_319001:=am (Kd.R_drew HO_319001.out)
      replace HO327:=am (Kd.S_drew HO327.out)
      replace BK308:=am (qd BK308.out)
      replace BK309:=am (qd BK309.out)
      replace BK318:=am (qd BK318.out)
      replace HB:=am (pd HB.out)
      obtain ⟨i078,hi078,_,hsz78,_⟩:=info_parts info9
      obtain ⟨hcut78,hA78,hC78⟩:=print_take_of (P:=Try.prog) Value.string (⟨#[]⟩:ByteArray) 22 9 .i64 Try.underlying22 hi078 hsz78 A0_1 c0_1 l0_1 (l1.length:Int) (od D0) (od D0) HC0_1.out
      have HR331:=am (Kd.C_of_reads (h1:=fun _=>rfl) (hA78 _ (Kd.reads_of_C HR0_1.out)))
      have HC331:=am hC78
      clear hA78 hC78 hi078 hsz78
      obtain ⟨Ao79,co79,eo79⟩:=Kd.S_slice HO327.out
      (first|subst eo79|(injection eo79 with f1_ f2_ f3_;have f4_:=f1_.symm;have f5_:=f3_.symm;clear f1_ f2_ f3_;subst f4_;subst f5_))
      obtain ⟨Ao80,co80,eo80⟩:=Kd.R_slice HO_319000.out
      (first|subst eo80|(injection eo80 with f1_ f2_ f3_;have f4_:=f1_.symm;have f5_:=f3_.symm;clear f1_ f2_ f3_;subst f4_;subst f5_))
      refine rS (n:=11) (S:=fun w'=>w'.cell? ⟨gb318,0,none⟩=some (.slice Ao80 x319000_2.length co80)∧w'.cell? ⟨gb318,1,none⟩=some (u319001)∧w'.cell? ⟨gb308,0,none⟩=some (.slice A0_0 l0_0.length c0_0)∧w'.cell? ⟨gb308,1,none⟩=some (.slice A0_1 l0_1.length c0_1)) (ds:=[]) [(0,77),(1,78),(4,81),(6,83),(7,84),(2,79),(5,82),(8,85),(3,0),(9,0),(10,10)] D2 rfl impl_MendStripe.tab12 impl_MendStripe.bits12 ⟨(blk_cell BK318.out 0).trans rfl,(blk_cell BK318.out 1).trans rfl,(blk_cell BK308.out 0).trans rfl,(blk_cell BK308.out 1).trans rfl⟩ (fun hHeld HT_ HW_=>?_)
      generalize w76.drew=w77 at HO_319000 HO_319001 HO327 BK308 BK309 BK318 HB HR331 hHeld ⊢
      refine rR ?_
      refine rO (N:=some 80) HT_ rfl rfl D2 D6 (fun K hK=>?_)
      refine goes_ Try.func100 D2 rfl #[.slice Ao79 t325.length co79, .slice Ao80 x319000_2.length co80] D10 rfl rfl D4 ?_
      with_reducible refine (impl_combined.calls k2 _ _ t325 _ _ x319000_2 t328 _ ?side1 ?side2 ?side3 ?side4 A69.out).mono ?_
      (case side1=>repeat (first|exact (Kd.S_reads' HO327.out).2.2|(with_reducible refine Kd.C_alloc ?_ _)|(with_reducible refine Kd.C_drewN ?_ _)|(with_reducible refine Kd.C_drew ?_)))
      (case side2=>exact (Kd.S_reads' HO327.out).2.1)
      (case side3=>repeat (first|exact (Kd.R_reads' HO_319000.out).2.2|(with_reducible refine Kd.C_alloc ?_ _)|(with_reducible refine Kd.C_drewN ?_ _)|(with_reducible refine Kd.C_drew ?_)))
      (case side4=>exact (Kd.R_reads' HO_319000.out).2.1)
      rintro e w81 ⟨v329,rfl,ho0,hb⟩
      refine ⟨_,rfl,?_⟩
      replace HO327:=bS HO327 hb
      have HO330:=am (Kd.R_lower (Kd.R_new' (Kd.R_new' ho0 (Kd.R_lt (yR HO_319000))) (Kd.R_lt (yR HO_319001))) (pz (yW HB)))
      replace HO_319000:=eR HO_319000 (Kd.R_base ho0) hb
      replace HO_319001:=eR HO_319001 (Kd.R_base ho0) hb
      replace BK308:=yb BK308 hb
      replace BK309:=yb BK309 hb
      replace BK318:=yb BK318 hb
      replace HB:=yH HB hb
      (try clear hb)
      (try clear hb2)
      (try clear hk)
      (try clear hi)
      (try clear ho0)
      obtain ⟨Ao82,co82,eo82⟩:=Kd.R_slice HO330.out
      (first|subst eo82|(injection eo82 with f1_ f2_ f3_;have f4_:=f1_.symm;have f5_:=f3_.symm;clear f1_ f2_ f3_;subst f4_;subst f5_))
      refine hK.out _ _ ⟨(blk_cell BK318.out 0).trans rfl,(blk_cell BK318.out 1).trans rfl,(blk_cell BK308.out 0).trans rfl,(blk_cell BK308.out 1).trans rfl⟩ (fun hHeld=>?_)
      clear hK K
      refine rN (a':=?_) ?_ ?_
      rotate_left
      ·show Act.put _ (some 80) _=_
       simp only [Act.put,q1,q2,q3,i64_w,i32_w]
       rfl
      refine rO (N:=some 86) HT_ rfl rfl D2 D6 (fun K hK=>?_)
      refine goes_ Try.func99 D2 rfl #[.slice Ao82 t328.length co82, .slice A0_1 (l0_1.take ((l1.length:Int):Int).toNat).length c0_1] D10 rfl rfl (by (try simp only [q4,q5,q6]);first|done|(rw [show (l0_1.take ((l1.length:Int):Int).toNat).length=(l1.length:Int).toNat from (by rw [List.length_take];have h_:((l1.length:Int):Int)≤(l0_1.length:Int):=od D0;omega)] <;> rfl)|rfl|(simp only [q7,q8];rfl)) ?_
      with_reducible refine (impl_sums.calls k2 _ _ t328 _ _ (l0_1.take ((l1.length:Int):Int).toNat) t332 _ ?side1 ?side2 ?side3 ?side4 A72.out).mono ?_
      (case side1=>repeat (first|exact (Kd.R_reads' HO330.out).2.2|(with_reducible refine Kd.C_alloc ?_ _)|(with_reducible refine Kd.C_drewN ?_ _)|(with_reducible refine Kd.C_drew ?_)))
      (case side2=>exact (Kd.R_reads' HO330.out).2.1)
      (case side3=>repeat (first|exact (Kd.C_below HR331.out HB.out)|(with_reducible refine Kd.C_alloc ?_ _)|(with_reducible refine Kd.C_drewN ?_ _)|(with_reducible refine Kd.C_drew ?_)))
      (case side4=>exact HC331.out)
      rintro e w83 ⟨v333,rfl,ho0,hb⟩
      refine ⟨_,rfl,?_⟩
      replace HO327:=bS HO327 hb
      have HO334:=am (Kd.R_lower (Kd.R_new' (Kd.R_new' (Kd.R_new' ho0 (Kd.R_lt (yR HO_319000))) (Kd.R_lt (yR HO_319001))) (Kd.R_lt (yR HO330))) (pz (yW HB)))
      replace HO_319000:=eR HO_319000 (Kd.R_base ho0) hb
      replace HO_319001:=eR HO_319001 (Kd.R_base ho0) hb
      replace HO330:=eR HO330 (Kd.R_base ho0) hb
      replace BK308:=yb BK308 hb
      replace BK309:=yb BK309 hb
      replace BK318:=yb BK318 hb
      replace HB:=yH HB hb
      (try clear hb)
      (try clear hb2)
      (try clear hk)
      (try clear hi)
      (try clear ho0)
      refine hK.out _ _ ⟨(blk_cell BK318.out 0).trans rfl,(blk_cell BK318.out 1).trans rfl,(blk_cell BK308.out 0).trans rfl,(blk_cell BK308.out 1).trans rfl⟩ (fun hHeld=>?_)
      clear hK K
      refine rN (a':=?_) ?_ ?_
      rotate_left
      ·show Act.put _ (some 86) _=_
       simp only [Act.put,q1,q2,q3,i64_w,i32_w]
       rfl
      refine rR ?_
      refine rD HT_ D2 ?_
      try go_wp2_with (first|(refine gD 87 ?_;(try (refine gate_guard D10 ?_;dsimp only));refine Kd.S_lit (Kd.slice 5 (Kd.int .u8)) _ 57 D10 (N:=87) D10 (xs:=([]:List (List Int))) (inner:=[]) (ok:=fun _=>True) (okp:=fun _=>True) D19 D29 (fun _ hk=>hk) trivial (Below.refl _ _) (Nat.le_refl _) D38 ?_;intro v336 w84 ho85 hb hg_ hnew_;clear hg_ hnew_;(first|rw [← Ny335.out] at ho85|(simp only [Int.reduceToNat] at ho85;rw [← Ny335.out] at ho85));replace HO_319000:=bR HO_319000 hb;replace HO_319001:=bR HO_319001 hb;replace HO330:=bR HO330 hb;replace HO334:=bR HO334 hb;have HO337:=am (Kd.S_lower (Kd.S_new' ho85 (Kd.S_lt (yS HO327))) (pz (yW HB)));replace HO327:=eS HO327 (Kd.S_base ho85) hb;replace BK308:=yb BK308 hb;replace BK309:=yb BK309 hb;replace BK318:=yb BK318 hb;replace HB:=yH HB hb;clear hb ho85))
      go_loopg [11,90] k2 (fun kq v11 v90 w'=>∃ (x11_3:List (List Int)) (x90_3:Int),v90 = .int .i64 x90_3∧Aside0 (impl_MendStripe.l1 kq l1 t332 x11_3 t325 (t325.length:Int) x90_3 x319000_2 x319001_2=some (r1,r2,r3))∧Aside0 (kq≤k2)∧Aside0 (Kd.R Kd.string 9 w' w.heap.size (fun k_=>some k_ ≠ ((.slice Ao80 x319000_2.length co80):Value).ownBlock∧some k_ ≠ (u319001:Value).ownBlock) v333 t332)∧Aside0 (Kd.S (Kd.slice 5 (Kd.int .u8)) 57 w' w.heap.size (fun k_=>some k_ ≠ ((.slice Ao79 t325.length co79):Value).ownBlock) v11 x11_3)∧Aside0 (Kd.S (Kd.slice 5 (Kd.int .u8)) 57 w' w.heap.size (fun k_=>some k_ ≠ (v11:Value).ownBlock) (.slice Ao79 t325.length co79) t325)∧Aside0 (Kd.R Kd.string 9 w' w.heap.size (fun k_=>some k_ ≠ (v333:Value).ownBlock∧some k_ ≠ (u319001:Value).ownBlock) (.slice Ao80 x319000_2.length co80) x319000_2)∧Aside0 (Kd.R Kd.string 9 w' w.heap.size (fun k_=>some k_ ≠ (v333:Value).ownBlock∧some k_ ≠ ((.slice Ao80 x319000_2.length co80):Value).ownBlock) u319001 x319001_2)∧Aside0 (w'.heap[gb308]? = some (.cells #[(.slice A0_0 l0_0.length c0_0),(.slice A0_1 l0_1.length c0_1)] 27 (0,0)))∧Aside0 (w'.heap[gb309]? = some (.cells #[(.slice none 0 0),(.slice none 0 0)] 27 (0,0)))∧Aside0 (w'.heap[gb318]? = some (.cells #[(.slice Ao80 x319000_2.length co80),u319001] 27 (0,0)))∧Aside0 (Below w.heap.size w w'))
      case atStart=>exact ⟨(y335),(0),D1,H',⟨Nat.le_refl _⟩,⟨by refine sR ?_;exact Kd.R_mono HO334.out (fun _ hk=>⟨hk.1.1.2,hk.1.2⟩)⟩,⟨by refine sS ?_;exact Kd.S_mono HO337.out (fun _ hk=>hk.2)⟩,⟨by refine sS ?_;exact Kd.S_mono HO327.out (fun _ hk=>hk.2)⟩,⟨by refine sR ?_;exact Kd.R_mono HO_319000.out (fun _ hk=>⟨hk.2,hk.1.1⟩)⟩,⟨by refine sR ?_;exact Kd.R_mono HO_319001.out (fun _ hk=>⟨hk.2,hk.1.1⟩)⟩,⟨yB BK308⟩,⟨yB BK309⟩,⟨yB BK318⟩,⟨yW HB⟩⟩
      case round =>
       clear H'
       try clear c1
       try clear c2
       try clear p2
       try clear c3
       try clear p3
       try clear q3
       try clear hx3
       try clear c4
       try clear c5
       try clear c6
       try clear p6
       try clear q6
       try clear hx6
       try clear hcv6
       try clear hf6
       try clear c7
       try clear c9
       try clear c10
       try clear c26
       try clear c26b0
       try clear c26b1
       try clear c26b2
       try clear p31
       try clear q31
       try clear hx31
       try clear p32
       try clear q32
       try clear hx32
       try clear c38
       try clear c39
       try clear c41
       try clear c54
       try clear c54b0
       try clear c55
       try clear c55b0
       try clear c56
       try clear c56b0
       try clear c57
       try clear c57b0
       try clear c58
       try clear c58b0
       try clear c59
       try clear c59b0
       try clear c59b1
       try clear c60
       try clear c60b0
       try clear c60b1
       try clear c61
       try clear c61b0
       try clear p62
       try clear q62
       try clear hx62
       try clear hf62
       try clear p64
       try clear hcv66
       try clear c70
       try clear c70b0
       try clear c70b1
       try clear c71
       try clear c71b0
       try clear c71b1
       try clear c73
       try clear c74
       try clear hcz40_0
       try clear hcz40_1
       try clear hcz42_0
       try clear hcz42_1
       try clear hcz75_0
       try clear hcz75_1
       try clear hfz40_0
       try clear hfz40_1
       try clear hfz42_0
       try clear hfz42_1
       try clear hfz75_0
       try clear hfz75_1
       try clear hx319_0
       try clear hx320_0
       try clear hx62_0
       try clear p2
       try clear p319
       try clear p320
       try clear p62
       try clear q319
       try clear q320
       try clear q62
       obtain ⟨x11_3,x90_3,rfl,HA,HK3,HO_10,HO_11,HO_88,HO_319000,HO_319001,BK308,BK309,BK318,HB⟩:=hrel
       cases gk with
       | zero=>exact absurd HA.out (by simp [impl_MendStripe.l1])
       | succ k3 =>
        have H:=HA.out
        clear HA
        simp only [impl_MendStripe.l1] at H
        by_cases c86:x90_3 < (t325.length:Int)
        ·rw [if_pos c86] at H
         have c86b0:=decide_eq_true c86
         clear c86
         obtain ⟨c87,H⟩:=yi H
         have c87b0:=decide_eq_true c87
         clear c87
         obtain ⟨c88,H⟩:=yi H
         have c88b0:=decide_eq_true c88
         clear c88
         generalize hy339:(([]:List Int):List Int)=y339 at H
         have Ny339:=am hy339.symm
         clear hy339
         have H':=am H
         clear H
         have p338:0≤(x90_3:Int):=od D0
         have q338:x90_3 < (t325.length:Int):=od D0
         obtain ⟨ad338,A338_0,c338_0,e338,hx338_0,hl338_0,hi338_0⟩:=at_L3 (Kd.S_reads' HO_88.out).2.2 x90_3 p338 q338
         cases e338
         obtain ⟨ce338,hce338,hMe338,hcc338⟩:=Kd.S_get HO_88.out [] x90_3 p338 (by first|exact q338|exact od D0|(have e_:=(Kd.S_reads' HO_88.out).1;omega))
         obtain ⟨ve338_0,rfl,ge338_0⟩:=hMe338
         have hv338_0:=hcc338 0 _ rfl
         rw [Nat.add_zero,show ((Kd.slice 5 (Kd.int .u8))).sz=1 from rfl,Nat.mul_one] at hv338_0
         replace hv338_0:=Option.some.inj (hv338_0.symm.trans hx338_0)
         rw [hv338_0] at ge338_0
         have HL338_0:=am (show Kd.R (Kd.int .u8) 5 _ _ _ _ (rd_L3 t325 x90_3) from ge338_0)
         clear hv338_0 ge338_0
         clear hcc338 hce338
         have HR338_0:=am hi338_0
         have HC338_0:=am hl338_0
         clear hi338_0 hl338_0
         replace p338:=eq_true p338
         replace q338:=eq_true q338
         go_wp2_with (first|(refine gD 94 ?_;(try (refine gate_guard D10 ?_;dsimp only));refine Kd.R_lit (Kd.int .u8) _ 5 D10 (N:=94) D10 (xs:=([]:List Int)) (inner:=[]) (ok:=fun _=>True) (okp:=fun _=>True) D19 D29 (fun _ hk=>hk) trivial (Below.refl _ _) (Nat.le_refl _) D38 ?_;intro v340 w89 ho90 hb hg_ hnew_;clear hg_ hnew_;(first|rw [← Ny339.out] at ho90|(simp only [Int.reduceToNat] at ho90;rw [← Ny339.out] at ho90));replace HO_10:=bR HO_10 hb;replace HO_11:=eS HO_11 (Kd.R_base ho90) hb;replace HO_88:=eS HO_88 (Kd.R_base ho90) hb;replace HO_319000:=bR HO_319000 hb;replace HO_319001:=bR HO_319001 hb;have HO341:=am (Kd.R_lower (Kd.R_new' ho90 (Kd.R_lt (yR HL338_0))) (pz (yW HB)));replace HL338_0:=eR HL338_0 (Kd.R_base ho90) hb;replace BK308:=yb BK308 hb;replace BK309:=yb BK309 hb;replace BK318:=yb BK318 hb;replace HR338_0:=am (Kd.C_below (by repeat (first|(with_reducible exact HR338_0.out)|(with_reducible refine Kd.C_alloc ?_ _)|(with_reducible refine Kd.C_drewN ?_ _)|(with_reducible refine Kd.C_drew ?_)|exact HR338_0.out)) hb);replace HB:=yH HB hb;clear hb ho90))
         go_loopg [14,97] k3 (fun kq v14 v97 w'=>∃ (x14_4:List Int) (x97_4:Int),v97 = .int .i64 x97_4∧Aside0 (impl_MendStripe.l2 kq l1 t332 x11_3 (rd_L3 t325 x90_3) x14_4 t325 (t325.length:Int) x90_3 l1 (l1.length:Int) x97_4 x319000_2 x319001_2=some (r1,r2,r3))∧Aside0 (kq≤k3)∧Aside0 (Kd.R Kd.string 9 w' w.heap.size (fun k_=>some k_ ≠ ((.slice Ao80 x319000_2.length co80):Value).ownBlock∧some k_ ≠ (u319001:Value).ownBlock) v333 t332)∧Aside0 (Kd.S (Kd.slice 5 (Kd.int .u8)) 57 w' w.heap.size (fun k_=>some k_ ≠ (v14:Value).ownBlock∧some k_ ≠ ((.slice (some ad338) t325.length co79):Value).ownBlock) u11 x11_3)∧Aside0 (Kd.R (Kd.int .u8) 5 w' w.heap.size (fun _=>True) v14 x14_4)∧Aside0 (Kd.S (Kd.slice 5 (Kd.int .u8)) 57 w' w.heap.size (fun k_=>some k_ ≠ (u11:Value).ownBlock∧some k_ ≠ (v14:Value).ownBlock) (.slice (some ad338) t325.length co79) t325)∧Aside0 (Kd.R Kd.string 9 w' w.heap.size (fun k_=>some k_ ≠ (v333:Value).ownBlock∧some k_ ≠ (u319001:Value).ownBlock) (.slice Ao80 x319000_2.length co80) x319000_2)∧Aside0 (Kd.R Kd.string 9 w' w.heap.size (fun k_=>some k_ ≠ (v333:Value).ownBlock∧some k_ ≠ ((.slice Ao80 x319000_2.length co80):Value).ownBlock) u319001 x319001_2)∧Aside0 (w'.heap[gb308]? = some (.cells #[(.slice A0_0 l0_0.length c0_0),(.slice A0_1 l0_1.length c0_1)] 27 (0,0)))∧Aside0 (w'.heap[gb309]? = some (.cells #[(.slice none 0 0),(.slice none 0 0)] 27 (0,0)))∧Aside0 (w'.heap[gb318]? = some (.cells #[(.slice Ao80 x319000_2.length co80),u319001] 27 (0,0)))∧Aside0 (Kd.R (Kd.int .u8) 5 w' w.heap.size (fun k_=>some k_ ≠ (v14:Value).ownBlock) (.slice A338_0 (rd_L3 t325 x90_3).length c338_0) (rd_L3 t325 x90_3))∧Aside0 (Below w.heap.size w w'))
         case atStart=>exact ⟨(y339),(0),D1,H',⟨Nat.le_refl _⟩,⟨yR HO_10⟩,⟨D63⟩,⟨by refine sR ?_;exact Kd.R_mono HO341.out (fun _ hk=>trivial)⟩,⟨yS HO_88⟩,⟨yR HO_319000⟩,⟨yR HO_319001⟩,⟨yB BK308⟩,⟨yB BK309⟩,⟨yB BK318⟩,⟨Kd.R_mono HL338_0.out (fun _ hk=>hk.2)⟩,⟨yW HB⟩⟩
         case round =>
          clear H'
          try clear c1
          try clear c2
          try clear p2
          try clear c3
          try clear p3
          try clear q3
          try clear hx3
          try clear c4
          try clear c5
          try clear c6
          try clear p6
          try clear q6
          try clear hx6
          try clear hcv6
          try clear hf6
          try clear c7
          try clear c8
          try clear c9
          try clear c10
          try clear c26
          try clear c26b0
          try clear c26b1
          try clear c26b2
          try clear p31
          try clear q31
          try clear hx31
          try clear p32
          try clear q32
          try clear hx32
          try clear c33
          try clear p33
          try clear q33
          try clear hx33
          try clear c38
          try clear c39
          try clear c41
          try clear c54
          try clear c54b0
          try clear c55
          try clear c55b0
          try clear c56
          try clear c56b0
          try clear c57
          try clear c57b0
          try clear c58
          try clear c58b0
          try clear c59
          try clear c59b0
          try clear c59b1
          try clear c60
          try clear c60b0
          try clear c60b1
          try clear c61
          try clear c61b0
          try clear p62
          try clear q62
          try clear hx62
          try clear hf62
          try clear p64
          try clear hcv66
          try clear c70
          try clear c70b0
          try clear c70b1
          try clear c71
          try clear c71b0
          try clear c71b1
          try clear c73
          try clear c74
          try clear c86
          try clear c86b0
          try clear c87
          try clear c87b0
          try clear c88
          try clear c88b0
          try clear hcz40_0
          try clear hcz40_1
          try clear hcz42_0
          try clear hcz42_1
          try clear hcz75_0
          try clear hcz75_1
          try clear hfz40_0
          try clear hfz40_1
          try clear hfz42_0
          try clear hfz42_1
          try clear hfz75_0
          try clear hfz75_1
          try clear hx319_0
          try clear hx320_0
          try clear hx338_0
          try clear hx62_0
          try clear p2
          try clear p3
          try clear p31
          try clear p319
          try clear p32
          try clear p320
          try clear p338
          try clear p6
          try clear p62
          try clear p64
          try clear q3
          try clear q31
          try clear q319
          try clear q32
          try clear q320
          try clear q338
          try clear q6
          try clear q62
          obtain ⟨x14_4,x97_4,rfl,HA,HK4,HO_10,HO_11,HO_14,HO_88,HO_319000,HO_319001,BK308,BK309,BK318,HLR_,HB⟩:=hrel
          cases gk with
          | zero=>exact absurd HA.out (by simp [impl_MendStripe.l2])
          | succ k4 =>
           have H:=HA.out
           clear HA
           simp only [impl_MendStripe.l2] at H
           by_cases c91:x97_4 < (l1.length:Int)
           ·rw [if_pos c91] at H
            have c91b0:=decide_eq_true c91
            clear c91
            obtain ⟨c92,H⟩:=yi H
            have c92b0:=decide_eq_true c92
            clear c92
            obtain ⟨c93,H⟩:=yi H
            have c93b0:=decide_eq_true c93
            clear c93
            obtain ⟨c94,H⟩:=yi H
            have c94b0:=decide_eq_true c94
            clear c94
            obtain ⟨c95,H⟩:=yi H
            have c95b0:=decide_eq_true c95
            clear c95
            obtain ⟨c96,H⟩:=yi H
            have LMc96:=am c96
            clear c96
            generalize hy344:(x14_4 ++ [rd (rd_L3 t325 x90_3) (rd l1 x97_4)]:List Int)=y344 at H
            have Ny344:=am hy344.symm
            clear hy344
            have H':=am H
            clear H
            have p342:0≤(x97_4:Int):=od D0
            have q342:x97_4 < (l1.length:Int):=od D0
            obtain ⟨ad342,e342,hx342_0⟩:=Kd.at_int HR1.out x97_4 p342 q342
            cases e342
            replace hx342_0:=(HB.out.cell (World.block_lt_of_cell? w _ hx342_0)).trans hx342_0
            replace p342:=eq_true p342
            replace q342:=eq_true q342
            have p343:0≤((rd l1 x97_4):Int):=od D0
            have q343:(rd l1 x97_4) < ((rd_L3 t325 x90_3).length:Int):=od D0
            obtain ⟨ad343,e343,hx343_0⟩:=Kd.at_int (Kd.R_reads' HLR_.out).2.2 (rd l1 x97_4) p343 q343
            cases e343
            replace p343:=eq_true p343
            replace q343:=eq_true q343
            go_wp2_with (first|((with_reducible refine gate_builtin (b:=.append) (xs:=#[.tmp 101, .tmp 106]) rfl ?_);(try (refine gate_guard D10 ?_;dsimp only));at_builtin;refine Kd.R_append (Kd.int .u8) (w0:=w) w.heap.size rfl (.tmp 101) (.tmp 106) 57 5 (.int .u8 0) 1 rfl Try.underlying57 info5 rfl D6 D8 u14 x14_4 (rd (rd_L3 t325 x90_3) (rd l1 x97_4)) [.int .u8 (rd (rd_L3 t325 x90_3) (rd l1 x97_4))] (fun _=>True) (fun _=>False) rfl rfl D65 (fun _ hk=>hk.elim) D20 (by exact (yR HO_14)) D50 D25 (by have:=LMc96.out;omega) ?_;intro v345 w97 ho hb hg hat;rw [← Ny344.out] at ho;have n0_:=am (Kd.R_over' (yR HO_10) (Kd.R_typed (yR HO_14)) D6 hg);have n1_:=am (Kd.S_after (ok:=(fun k_=>some k_ ≠ (.slice (some ad338) t325.length co79:Value).ownBlock)) D63 hg hat);have n2_:=am (Kd.S_after (ok:=(fun k_=>some k_ ≠ (u11:Value).ownBlock)) (yS HO_88) hg hat);have n3_:=am (Kd.R_over' (yR HO_319000) (Kd.R_typed (yR HO_14)) D6 hg);have n4_:=am (Kd.R_over' (yR HO_319001) (Kd.R_typed (yR HO_14)) D6 hg);have n5_:=am (blk_grown (g:=gb308) (o:=.cells #[.slice A0_0 l0_0.length c0_0, .slice A0_1 l0_1.length c0_1] 27 (0,0)) (yB BK308) hg (Kd.R_ne HO_14.out BK308.out D6));have n6_:=am (blk_grown (g:=gb309) (o:=.cells #[.slice none 0 0, .slice none 0 0] 27 (0,0)) (yB BK309) hg (Kd.R_ne HO_14.out BK309.out D6));have n7_:=am (blk_grown (g:=gb318) (o:=.cells #[.slice Ao80 x319000_2.length co80,u319001] 27 (0,0)) (yB BK318) hg (Kd.R_ne HO_14.out BK318.out D6));have n8_:=am (hb);have n9_:=am (ho);clear HO_10 HO_11 HO_88 HO_319000 HO_319001 BK308 BK309 BK318 HB HO_14;have HO_10:=n0_;have HO_11:=n1_;have HO_88:=n2_;have HO_319000:=n3_;have HO_319001:=n4_;have BK308:=n5_;have BK309:=n6_;have BK318:=n7_;have HB:=n8_;have HO346:=n9_;clear n0_ n1_ n2_ n3_ n4_ n5_ n6_ n7_ n8_ n9_;replace HLR_:=am (Kd.R_mono (Kd.R_after (ok:=fun _=>True) (by refine sR ?_;exact Kd.R_mono HLR_.out (fun _ hk=>⟨trivial,hk⟩)) hg hat) (fun _ hk=>hk.2));clear ho hb hg hat))
            go_roundg k4
            case measure=>have:=HJ2.out;have:=HK2.out;have:=HK3.out;have:=HK4.out;omega
            case rel=>exact ⟨(y344),(wrap64 (x97_4+1)),D1,H',⟨D53⟩,⟨yR HO_10⟩,⟨D63⟩,⟨yR HO346⟩,⟨yS HO_88⟩,⟨yR HO_319000⟩,⟨yR HO_319001⟩,⟨yB BK308⟩,⟨yB BK309⟩,⟨yB BK318⟩,⟨HLR_.out⟩,⟨yW HB⟩⟩
           rw [if_neg c91] at H
           have c91b0:=decide_eq_false c91
           clear c91
           obtain ⟨c98,H⟩:=yi H
           have LMc98:=am c98
           clear c98
           generalize hy347:(x11_3 ++ [x14_4]:List (List Int))=y347 at H
           have Ny347:=am hy347.symm
           clear hy347
           have H':=am H
           clear H
           obtain ⟨Ao100,co100,eo100⟩:=Kd.R_slice HO_14.out
           subst eo100
           go_wp2_with (first|((with_reducible refine gate_builtin (b:=.append) (xs:=#[.tmp 109, .tmp 111]) rfl ?_);(try (refine gate_guard D10 ?_;dsimp only));at_builtin;refine Kd.S_append (Kd.slice 5 (Kd.int .u8)) (w0:=w) w.heap.size rfl (.tmp 109) (.tmp 111) 37 57 (.slice none 0 0) 24 rfl Try.underlying37 info57 rfl D6 D8 u11 x11_3 x14_4 [.slice Ao100 x14_4.length co100] (fun k_=>some k_ ≠ (.slice (some ad338) t325.length co79:Value).ownBlock) (fun k_=>some k_=(.slice Ao100 x14_4.length co100:Value).ownBlock) rfl rfl (by exact Kd.M_row (Kd.R_mono (Kd.R_tight rfl (Kd.R_mono (ok':=fun k_=>((fun k_=>some k_ ≠ (.slice (some ad338) t325.length co79:Value).ownBlock)) k_∧some k_ ≠ (u11:Value).ownBlock) (Kd.R_apart' (Kd.R_apart' (HO_14.out) (Kd.S_typed HO_88.out) D6) (Kd.S_typed HO_11.out) D6) (fun k_ hk=>⟨hk.1.2,hk.2⟩))) (fun _ h_=>h_))) (fun k_ hk_=>((Kd.R_mono (ok':=fun k_=>((fun k_=>some k_ ≠ (.slice (some ad338) t325.length co79:Value).ownBlock)) k_∧some k_ ≠ (u11:Value).ownBlock) (Kd.R_apart' (Kd.R_apart' (HO_14.out) (Kd.S_typed HO_88.out) D6) (Kd.S_typed HO_11.out) D6) (fun k_ hk=>⟨hk.1.2,hk.2⟩))).1 k_ hk_.symm) (by exact (fun k_ hk=>Kd.fresh' (Kd.S_lt (yS HO_88)) k_ hk)) (by exact (by refine sS ?_;exact Kd.S_mono HO_11.out (fun k_ hk=>⟨hk.2,fun e_=>hk.1 e_⟩))) D50 D25 (by have:=LMc98.out;omega) ?_;intro v348 w99 ho hb hg hat;rw [← Ny347.out] at ho;have n0_:=am (Kd.R_over' (yR HO_10) (Kd.S_typed (yS HO_11)) D6 hg);have n1_:=am (Kd.S_after (ok:=(fun k_=>some k_ ≠ (.slice Ao100 x14_4.length co100:Value).ownBlock)) (by refine sS ?_;exact Kd.S_mono HO_88.out (fun _ hk=>⟨hk.2,hk.1⟩)) hg hat);have n2_:=am (Kd.R_over' (yR HO_319000) (Kd.S_typed (yS HO_11)) D6 hg);have n3_:=am (Kd.R_over' (yR HO_319001) (Kd.S_typed (yS HO_11)) D6 hg);have n4_:=am (blk_grown (g:=gb308) (o:=.cells #[.slice A0_0 l0_0.length c0_0, .slice A0_1 l0_1.length c0_1] 27 (0,0)) (yB BK308) hg (Kd.S_ne HO_11.out BK308.out D6));have n5_:=am (blk_grown (g:=gb309) (o:=.cells #[.slice none 0 0, .slice none 0 0] 27 (0,0)) (yB BK309) hg (Kd.S_ne HO_11.out BK309.out D6));have n6_:=am (blk_grown (g:=gb318) (o:=.cells #[.slice Ao80 x319000_2.length co80,u319001] 27 (0,0)) (yB BK318) hg (Kd.S_ne HO_11.out BK318.out D6));have n7_:=am (hb);have n8_:=am (ho);clear HO_10 HO_88 HO_319000 HO_319001 BK308 BK309 BK318 HB HO_11 HO_14;have HO_10:=n0_;have HO_88:=n1_;have HO_319000:=n2_;have HO_319001:=n3_;have BK308:=n4_;have BK309:=n5_;have BK318:=n6_;have HB:=n7_;have HO349:=n8_;clear n0_ n1_ n2_ n3_ n4_ n5_ n6_ n7_ n8_ ho hb hg hat))
           go_roundg k4
           case measure=>have:=HJ2.out;have:=HK2.out;have:=HK3.out;have:=HK4.out;omega
           case rel=>exact ⟨(y347),(wrap64 (x90_3+1)),D1,H',⟨D53⟩,⟨yR HO_10⟩,⟨yS HO349⟩,⟨by refine sS ?_;exact Kd.S_mono HO_88.out (fun _ hk=>hk.2)⟩,⟨yR HO_319000⟩,⟨yR HO_319001⟩,⟨yB BK308⟩,⟨yB BK309⟩,⟨yB BK318⟩,⟨yW HB⟩⟩
        rw [if_neg c86] at H
        have c86b0:=decide_eq_false c86
        clear c86
        obtain ⟨⟨t350,t351⟩,A101,H⟩:=yo H
        try dsimp only at H
        by_cases c102:t351=true
        ·subst c102
         replace H:=yt H
         obtain ⟨t354,A103,H⟩:=yo H
         have H':=am H
         clear H
         obtain ⟨Ao104,co104,eo104⟩:=Kd.S_slice HO_11.out
         subst eo104
         go_wp2_with (first|(refine gC 101 ?_;refine gM (some 116) Try.func101 (args:=#[.slice Ao104 x11_3.length co104]) (impl_inverseOf.calls _ _ x11_3 t350 true _ (yc (Kd.S_reads' HO_11.out).2.2) (Kd.S_reads' HO_11.out).2.1 A101.out) ?_;rintro e w105 ⟨v352,rfl,ho0,hb⟩;refine ⟨_,rfl,?_⟩;replace HO_10:=bR HO_10 hb;replace HO_319000:=bR HO_319000 hb;replace HO_319001:=bR HO_319001 hb;have HO353:=am (Kd.S_lower (Kd.S_new' (Kd.S_new' ho0 (Kd.S_lt (yS HO_11))) (Kd.S_lt (yS HO_88))) (pz (yW HB)));replace HO_11:=eS HO_11 (Kd.S_base ho0) hb;replace HO_88:=eS HO_88 (Kd.S_base ho0) hb;replace BK308:=yb BK308 hb;replace BK309:=yb BK309 hb;replace BK318:=yb BK318 hb;replace HB:=yH HB hb;clear hb ho0;obtain ⟨Ao106,co106,eo106⟩:=Kd.S_slice HO353.out;subst eo106;obtain ⟨Ao107,co107,eo107⟩:=Kd.R_slice HO_10.out;subst eo107)|(refine gC 100 ?_;refine gM (some 124) Try.func100 (args:=#[.slice Ao106 t350.length co106, .slice Ao107 t332.length co107]) (impl_combined.calls k3 _ _ t350 _ _ t332 t354 _ (yc (Kd.S_reads' HO353.out).2.2) (Kd.S_reads' HO353.out).2.1 (yc (Kd.R_reads' HO_10.out).2.2) (Kd.R_reads' HO_10.out).2.1 A103.out) ?_;rintro e w108 ⟨v355,rfl,ho0,hb⟩;refine ⟨_,rfl,?_⟩;replace HO_11:=bS HO_11 hb;replace HO_88:=bS HO_88 hb;replace HO353:=bS HO353 hb;have HO356:=am (Kd.R_lower (Kd.R_new' (Kd.R_new' (Kd.R_new' ho0 (Kd.R_lt (yR HO_10))) (Kd.R_lt (yR HO_319000))) (Kd.R_lt (yR HO_319001))) (pz (yW HB)));replace HO_10:=eR HO_10 (Kd.R_base ho0) hb;replace HO_319000:=eR HO_319000 (Kd.R_base ho0) hb;replace HO_319001:=eR HO_319001 (Kd.R_base ho0) hb;replace BK308:=yb BK308 hb;replace BK309:=yb BK309 hb;replace BK318:=yb BK318 hb;replace HB:=yH HB hb;clear hb ho0;obtain ⟨Ao109,co109,eo109⟩:=Kd.R_slice HO356.out;subst eo109))
         go_loopg [126] k3 (fun kq v126 w'=>∃ (x124_4:List ByteArray) (x126_4:Int) (x319000_4:List ByteArray) (x319001_4:List ByteArray) (u319000:Value) (u319001:Value),v126 = .int .i64 x126_4∧Aside0 (impl_MendStripe.l3 kq l1 x124_4 (t354.length:Int) x126_4 x319000_4 x319001_4=some (r1,r2,r3))∧Aside0 (kq≤k3)∧Aside0 (Kd.R Kd.string 9 w' w.heap.size (fun k_=>some k_ ≠ (u319000:Value).ownBlock∧some k_ ≠ (u319001:Value).ownBlock) (.slice Ao109 t354.length co109) x124_4)∧Aside0 (Kd.R Kd.string 9 w' w.heap.size (fun k_=>some k_ ≠ ((.slice Ao109 t354.length co109):Value).ownBlock∧some k_ ≠ (u319001:Value).ownBlock) u319000 x319000_4)∧Aside0 (Kd.R Kd.string 9 w' w.heap.size (fun k_=>some k_ ≠ ((.slice Ao109 t354.length co109):Value).ownBlock∧some k_ ≠ (u319000:Value).ownBlock) u319001 x319001_4)∧Aside0 (w'.heap[gb308]? = some (.cells #[(.slice A0_0 l0_0.length c0_0),(.slice A0_1 l0_1.length c0_1)] 27 (0,0)))∧Aside0 (w'.heap[gb309]? = some (.cells #[(.slice none 0 0),(.slice none 0 0)] 27 (0,0)))∧Aside0 (w'.heap[gb318]? = some (.cells #[u319000,u319001] 27 (0,0)))∧Aside0 (Below w.heap.size w w'))
         case atStart=>exact ⟨(t354),(0),(x319000_2),(x319001_2),(.slice Ao80 x319000_2.length co80),(u319001),D1,H',⟨Nat.le_refl _⟩,⟨by refine sR ?_;exact Kd.R_mono HO356.out (fun _ hk=>⟨hk.1.2,hk.2⟩)⟩,⟨by refine sR ?_;exact Kd.R_mono HO_319000.out (fun _ hk=>⟨hk.2,hk.1.2⟩)⟩,⟨by refine sR ?_;exact Kd.R_mono HO_319001.out (fun _ hk=>⟨hk.2,hk.1.2⟩)⟩,⟨yB BK308⟩,⟨yB BK309⟩,⟨yB BK318⟩,⟨yW HB⟩⟩
         case round =>
          clear H'
          try clear c1
          try clear c2
          try clear p2
          try clear c3
          try clear p3
          try clear q3
          try clear hx3
          try clear c4
          try clear c5
          try clear c6
          try clear p6
          try clear q6
          try clear hx6
          try clear hcv6
          try clear hf6
          try clear c7
          try clear c8
          try clear c9
          try clear c10
          try clear c26
          try clear c26b0
          try clear c26b1
          try clear c26b2
          try clear p31
          try clear q31
          try clear hx31
          try clear p32
          try clear q32
          try clear hx32
          try clear c33
          try clear p33
          try clear q33
          try clear hx33
          try clear p34
          try clear q34
          try clear hx34
          try clear c38
          try clear c39
          try clear c41
          try clear c54
          try clear c54b0
          try clear c55
          try clear c55b0
          try clear c56
          try clear c56b0
          try clear c57
          try clear c57b0
          try clear c58
          try clear c58b0
          try clear c59
          try clear c59b0
          try clear c59b1
          try clear c60
          try clear c60b0
          try clear c60b1
          try clear c61
          try clear c61b0
          try clear p62
          try clear q62
          try clear hx62
          try clear hf62
          try clear p64
          try clear hcv66
          try clear c70
          try clear c70b0
          try clear c70b1
          try clear c71
          try clear c71b0
          try clear c71b1
          try clear c73
          try clear c74
          try clear c86
          try clear c86b0
          try clear c87
          try clear c87b0
          try clear c88
          try clear c88b0
          try clear c91
          try clear c91b0
          try clear c92
          try clear c92b0
          try clear c93
          try clear c93b0
          try clear c94
          try clear c94b0
          try clear c95
          try clear c95b0
          try clear c96
          try clear c98
          try clear c99
          try clear c100
          try clear c101
          try clear c102
          try clear hcz40_0
          try clear hcz40_1
          try clear hcz42_0
          try clear hcz42_1
          try clear hcz75_0
          try clear hcz75_1
          try clear hfz40_0
          try clear hfz40_1
          try clear hfz42_0
          try clear hfz42_1
          try clear hfz75_0
          try clear hfz75_1
          try clear hx319_0
          try clear hx320_0
          try clear hx338_0
          try clear hx342_0
          try clear hx343_0
          try clear hx62_0
          try clear p2
          try clear p3
          try clear p31
          try clear p319
          try clear p32
          try clear p320
          try clear p33
          try clear p338
          try clear p342
          try clear p343
          try clear p6
          try clear p62
          try clear p64
          try clear q3
          try clear q31
          try clear q319
          try clear q32
          try clear q320
          try clear q33
          try clear q338
          try clear q342
          try clear q343
          try clear q6
          try clear q62
          obtain ⟨x124_4,x126_4,x319000_4,x319001_4,u319000,u319001,rfl,HA,HK4,HO_124,HO_319000,HO_319001,BK308,BK309,BK318,HB⟩:=hrel
          have hl124_4:=(Kd.R_reads' HO_124.out).1
          rw [hl124_4] at HO_124
          (try simp only [hl124_4])
          (try simp only [hl124_4] at BK308)
          (try simp only [hl124_4] at BK309)
          (try simp only [hl124_4] at BK318)
          (try simp only [hl124_4] at HO_319000)
          (try simp only [hl124_4] at HO_319001)
          cases gk with
          | zero=>exact absurd HA.out (by simp [impl_MendStripe.l3])
          | succ k4 =>
           have H:=HA.out
           clear HA
           simp only [impl_MendStripe.l3] at H
           by_cases c110:x126_4 < (t354.length:Int)
           ·rw [if_pos c110] at H
            have c110b0:=decide_eq_true c110
            clear c110
            obtain ⟨c111,H⟩:=yi H
            have c111b0:=decide_eq_true c111
            clear c111
            obtain ⟨c112,H⟩:=yi H
            have c112b0:=decide_eq_true c112
            clear c112
            obtain ⟨c113,H⟩:=yi H
            have c113b0:=decide_eq_true c113
            clear c113
            obtain ⟨c114,H⟩:=yi H
            have c114b0:=decide_eq_true c114
            clear c114
            obtain ⟨c115,H⟩:=yi H
            have c115b0:=decide_eq_true c115
            clear c115
            generalize hy359:(x319000_4.set ((rd l1 x126_4):Int).toNat (rdOf ByteArray.empty x124_4 x126_4):List ByteArray)=y359 at H
            have Ny359:=am hy359.symm
            clear hy359
            have H':=am H
            clear H
            have p357:0≤(x126_4:Int):=od D0
            have q357:x126_4 < (x124_4.length:Int):=od D0
            obtain ⟨ad357,e357,hx357_0⟩:=Kd.at_string (Kd.R_reads' HO_124.out).2.2 x126_4 p357 q357
            cases e357
            replace p357:=eq_true p357
            replace q357:=eq_true q357
            try go_wp2
            replace HO_124:=am (Kd.R_drew HO_124.out)
            replace HO_319000:=am (Kd.R_drew HO_319000.out)
            replace HO_319001:=am (Kd.R_drew HO_319001.out)
            replace BK308:=am (qd BK308.out)
            replace BK309:=am (qd BK309.out)
            replace BK318:=am (qd BK318.out)
            replace HB:=am (pd HB.out)
            have p358:0≤(x126_4:Int):=od D0
            have q358:x126_4 < (l1.length:Int):=od D0
            obtain ⟨ad358,e358,hx358_0⟩:=Kd.at_int HR1.out x126_4 p358 q358
            have hw358_0:=hx358_0
            cases e358
            replace hx358_0:=(HB.out.cell (World.block_lt_of_cell? w _ hx358_0)).trans hx358_0
            replace p358:=eq_true p358
            replace q358:=eq_true q358
            have p116:0≤((rd l1 x126_4):Int):=od D0
            have q116:((rd l1 x126_4):Int) < ((x319000_4.length:Int):Int):=od D0
            obtain ⟨go116,co116,eo116,gb116,gl116,cl116,HG116⟩:=Kd.R_form HO_319000.out D8
            (first|cases eo116|(injection eo116 with ea_ en_ ec_;(first|subst ea_|(injection ea_ with ea_;subst ea_));subst ec_;clear en_))
            have GB116:=am gb116
            have GG116:=am HG116
            clear gb116 gl116 HG116
            obtain ⟨hx116_0,hf116_0⟩:=Kd.R_celln (⟨#[]⟩:ByteArray) HO_319000.out ((rd l1 x126_4):Int) p116 q116
            replace p116:=eq_true p116
            replace q116:=eq_true q116
            have HP118:=Kd.R_putn HO_319000.out ((rd l1 x126_4):Int) (rdOf ByteArray.empty x124_4 x126_4)
            rw [← Ny359.out] at HP118
            have HQ118:=am HP118
            clear HP118
            refine rS (n:=9) (S:=fun w'=>w'.cell? ⟨gb318,0,none⟩=some (.slice (some ⟨go116,0,none⟩) x319000_4.length co116)∧w'.cell? ⟨gb318,1,none⟩=some (u319001)∧w'.cell? (ad358.add (x126_4).toNat)=some (.int .i64 (rd l1 x126_4))) (ds:=[8]) [(0,131),(2,133),(3,134),(4,135),(6,137),(1,132),(5,136),(7,138),(8,0)] D2 rfl impl_MendStripe.tab31 impl_MendStripe.bits31 ⟨(blk_cell BK318.out 0).trans rfl,(blk_cell BK318.out 1).trans rfl,((HB.out.cell (World.block_lt_of_cell? w _ hw358_0)).trans hw358_0)⟩ (fun hHeld HT_ HW_=>?_)
            generalize wr.drew=w117 at HO_124 HO_319000 HO_319001 BK308 BK309 BK318 HB GG116 HQ118 hf116_0 hx116_0 hx358_0 hHeld ⊢
            refine rR ?_
            refine rL (N:=none) HT_ rfl rfl D2 D6 (fun K hK=>?_)
            refine skip_ (w1:=?_) D10 rfl ?_ ?_
            rotate_left
            ·go_simp
             rfl
            refine hK.out _ _ ?_
            clear hK K
            refine rD HT_ D2 ?_
            try go_wp2
            (try simp only [← hl124_4])
            go_roundg k4
            case measure=>have:=HJ2.out;have:=HK2.out;have:=HK3.out;have:=HK4.out;omega
            case rel=>exact ⟨(x124_4),(wrap64 (x126_4+1)),(y359),(x319001_4),(.slice (some ⟨go116,0,none⟩) x319000_4.length co116),(u319001),D1,H',⟨D53⟩,⟨by (try simp only [hl124_4]);refine sR ?_;exact Kd.R_mono (Kd.R_far (p:=⟨go116,((rd l1 x126_4):Int).toNat,none⟩) (Kd.R_mono HO_124.out (fun k_ hk=>(⟨hk,fun e_=>hk.1 D45⟩:_∧k_ ≠ go116))) (fun _ hk=>hk.2) (.string (rdOf ByteArray.empty x124_4 x126_4))) (fun _ hk=>⟨hk.1.1,hk.1.2⟩)⟩,⟨by (try simp only [hl124_4]);refine sR ?_;exact HQ118.out⟩,⟨by (try simp only [hl124_4]);refine sR ?_;exact Kd.R_mono (Kd.R_far (p:=⟨go116,((rd l1 x126_4):Int).toNat,none⟩) (Kd.R_mono HO_319001.out (fun k_ hk=>(⟨hk,fun e_=>hk.2 D45⟩:_∧k_ ≠ go116))) (fun _ hk=>hk.2) (.string (rdOf ByteArray.empty x124_4 x126_4))) (fun _ hk=>⟨hk.1.1,hk.1.2⟩)⟩,⟨by (try simp only [hl124_4]);refine sB ?_;refine blk_far ?_ (by have h_:=Kd.R_ne HO_319000.out BK308.out D6;intro e_;exact h_ D45) _;exact yB BK308⟩,⟨by (try simp only [hl124_4]);refine sB ?_;refine blk_far ?_ (by have h_:=Kd.R_ne HO_319000.out BK309.out D6;intro e_;exact h_ D45) _;exact yB BK309⟩,⟨by (try simp only [hl124_4]);refine sB ?_;refine blk_far ?_ (by have h_:=Kd.R_ne HO_319000.out BK318.out D6;intro e_;exact h_ D45) _;exact yB BK318⟩,⟨by repeat (first|(with_reducible first|exact HB.out|apply pa|apply pb|apply pd|refine pt ?_ GB116.out|refine pt ?_ GE308.out|refine pt ?_ GE309.out|refine pt ?_ GE318.out)|exact HB.out)⟩⟩
           rw [if_neg c110] at H
           have c110b0:=decide_eq_false c110
           (try simp only [hl124_4] at c110b0)
           clear c110
           simp only [Option.some.injEq,Prod.mk.injEq] at H
           obtain ⟨rfl,rfl,rfl⟩:=H
           have hnb119:=NB318_308.out
           have hnc119:=NB308_318.out
           have hnb120:=NB318_309.out
           have hnc120:=NB309_318.out
           obtain ⟨hcz121_0,hcz121_1,hfz121_0,hfz121_1⟩:=yk2 BK318
           obtain ⟨Ao122,co122,eo122⟩:=Kd.R_slice HO_319000.out
           subst eo122
           have hnb123:=NB309_308.out
           have hnc123:=NB308_309.out
           obtain ⟨hcz124_0,hcz124_1,hfz124_0,hfz124_1⟩:=yk2 BK309
           obtain ⟨Ao125,co125,eo125⟩:=Kd.R_slice HO_319001.out
           subst eo125
           go_wp2
           refine bodyPost_ret (results_ct rfl _ _ gb309 27 #[.slice Ao122 x319000_4.length co122, .slice Ao125 x319001_4.length co125] (0,0) _ rfl (by refine sB ?_;refine blk_put (cs:=#[.slice Ao122 x319000_4.length co122, .slice none 0 0]) ?_ 1 _ rfl;refine sB ?_;refine blk_put (cs:=#[.slice none 0 0, .slice none 0 0]) ?_ 0 _ rfl;exact yB BK309) Try.underlying27 rfl D2) rfl ?_
           exact ⟨_,_,D3,by refine sR ?_;exact Kd.R_mono (Kd.R_far (p:=⟨gb309,1,none⟩) (Kd.R_far (p:=⟨gb309,0,none⟩) (Kd.R_types HO_319000.out BK309.out D6) (fun _ hk=>hk.2) (.slice Ao122 x319000_4.length co122)) (fun _ hk=>hk.2) (.slice Ao125 x319001_4.length co125)) (fun _ hk=>hk.1.2),by refine sR ?_;exact Kd.R_mono (Kd.R_far (p:=⟨gb309,1,none⟩) (Kd.R_far (p:=⟨gb309,0,none⟩) (Kd.R_types HO_319001.out BK309.out D6) (fun _ hk=>hk.2) (.slice Ao122 x319000_4.length co122)) (fun _ hk=>hk.2) (.slice Ao125 x319001_4.length co125)) (fun _ hk=>hk.1.2),yW HB⟩
        replace c102:=Bool.eq_false_iff.mpr c102
        subst c102
        replace H:=yn H
        simp only [Option.some.injEq,Prod.mk.injEq] at H
        obtain ⟨rfl,rfl,rfl⟩:=H
        obtain ⟨Ao126,co126,eo126⟩:=Kd.S_slice HO_11.out
        subst eo126
        go_wp2_with (first|(refine gC 101 ?_;refine gM (some 116) Try.func101 (args:=#[.slice Ao126 x11_3.length co126]) (impl_inverseOf.calls _ _ x11_3 t350 false _ (yc (Kd.S_reads' HO_11.out).2.2) (Kd.S_reads' HO_11.out).2.1 A101.out) ?_;rintro e w127 ⟨v352,rfl,ho0,hb⟩;refine ⟨_,rfl,?_⟩;replace HO_10:=bR HO_10 hb;replace HO_319000:=bR HO_319000 hb;replace HO_319001:=bR HO_319001 hb;have HO353:=am (Kd.S_lower (Kd.S_new' (Kd.S_new' ho0 (Kd.S_lt (yS HO_11))) (Kd.S_lt (yS HO_88))) (pz (yW HB)));replace HO_11:=eS HO_11 (Kd.S_base ho0) hb;replace HO_88:=eS HO_88 (Kd.S_base ho0) hb;replace BK308:=yb BK308 hb;replace BK309:=yb BK309 hb;replace BK318:=yb BK318 hb;replace HB:=yH HB hb;clear hb ho0;have hnb128:=NB309_308.out;have hnc128:=NB308_309.out;have hnb129:=NB309_318.out;have hnc129:=NB318_309.out;obtain ⟨hcz130_0,hcz130_1,hfz130_0,hfz130_1⟩:=yk2 BK309))
        refine bodyPost_ret (results_ct rfl _ _ gb309 27 #[.slice none 0 0, .slice none 0 0] (0,0) _ rfl D54 Try.underlying27 rfl D2) rfl ?_
        exact ⟨_,_,D3,D9,D9,yW HB⟩
     rw [if_neg c70] at H
     exact absurd H D38

end Go.Proofs.Ytajikfnpcobnpaa.PFnExactMendStripe
-- SHRUNK
-- HALVED
-- SQUEEZED
-- SQUEEZED2
-- SQUEEZED3
-- SQUEEZED4
-- SQUEEZED5
-- SQUEEZED6
