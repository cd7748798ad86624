import Derived.Test.YteflgifmdojahaaVFnRegeneratedB
import Derived.Test.YteflgifmdojahaaPFnRegeneratedx0
import Derived.Test.YteflgifmdojahaaPFnRegeneratedx1
import Derived.Test.YteflgifmdojahaaPFnRegeneratedx2
import Derived.Test.YteflgifmdojahaaPFnRegeneratedx3
import Derived.Test.YteflgifmdojahaaPFnRegeneratedx4
import Derived.Test.YteflgifmdojahaaPFnRegeneratedx7
import Derived.Test.YteflgifmdojahaaPFnRegeneratedx5
import Derived.Test.YteflgifmdojahaaPFnRegeneratedx6
namespace Go.Proofs.Yteflgifmdojahaa.PFnRegenerated
open Go.RowKit Go.Proofs.YteflgifmdojahaaW.PrintWords Go.Proofs.YteflgifmdojahaaW.PrintLast Go.Proofs.YteflgifmdojahaaW.PrintMore Go.Proofs.Yteflgifmdojahaa.KitS
attribute [local go_sem] max2_int min2_int max_two min_two max_three min_three max_four min_four
set_option linter.unusedVariables false
set_option maxHeartbeats 8000000
set_option maxRecDepth 100000
set_option linter.unusedSimpArgs false
mutual
def laws_FnRegenerated.j3:Nat→List Int→Option (Bool)
 | 0,_=>none
 | k+1,x1=>(spec_DrawRegeneratePiece.f k x1).bind fun bt587=>((impl_RegeneratePiece.f k bt587.1 bt587.2.1 bt587.2.2.1 bt587.2.2.2).bind fun bt594=>((spec_RegeneratePiece.f k bt587.1 bt587.2.1 bt587.2.2.1 bt587.2.2.2).bind fun bt600=>(if (bt594.2.2 == bt600.2.2)=true then (if bt594.1=bt600.1 then ((laws_sameBytes.f bt594.2.1 bt600.2.1).bind fun t606=>(some t606)) else (some false)) else (some false))))
def laws_FnRegenerated.l0:Nat→List Int→List (S76)→Int→List Int→Int→Int→Int→Option (Bool)
 | 0,_,_,_,_,_,_,_=>none
 | k+1,x1,x7,x11,x12,x13,x549000,x549001=>if x13 < x549000 then (if x13=x11 then (laws_FnRegenerated.l0 k x1 x7 x11 x12 (wrap64 (x13+1)) x549000 x549001) else (if x12.length < 17592186044416 then (laws_FnRegenerated.l0 k x1 x7 x11 (x12 ++ [x13]) (wrap64 (x13+1)) x549000 x549001) else (none))) else ((laws_someOf.f k (x12.length:Int) (wrap64 (2*(wrap64 (x549001 - 1)))) x1).bind fun t561=>(if 0≤(wrap64 (2*(wrap64 (x549001 - 1)))) then (if (wrap64 (2*(wrap64 (x549001 - 1))))≤(t561.length:Int) then ((some (t561.take ((wrap64 (2*(wrap64 (x549001 - 1)))):Int).toNat:List Int)).bind fun y564=>(laws_FnRegenerated.l1 k x1 x7 x11 x12 ([]:List (S85)) y564 (y564.length:Int) 0 x549000 x549001)) else (none)) else (none)))
def laws_FnRegenerated.l1:Nat→List Int→List (S76)→Int→List Int→List (S85)→List Int→Int→Int→Int→Int→Option (Bool)
 | 0,_,_,_,_,_,_,_,_,_,_=>none
 | k+1,x1,x7,x11,x12,x15,x84,x85,x86,x549000,x549001=>if x86 < x85 then (if 0≤x86 then (if x86 < (x84.length:Int) then (if 0≤(rd x84 x86) then (if (rd x84 x86) < (x12.length:Int) then (if 0≤(rd x12 (rd x84 x86)) then (if (rd x12 (rd x84 x86)) < (x7.length:Int) then ((impl_HelpFor.f k x549000 x549001 ((rd_T76 x7 (rd x12 (rd x84 x86))).f0) ((rd_T76 x7 (rd x12 (rd x84 x86))).f1) x11).bind fun bt571=>(if bt571.2.2=true then (if bt571.1=(rd x12 (rd x84 x86)) then (if x15.length < 8796093022208 then (laws_FnRegenerated.l1 k x1 x7 x11 x12 (x15 ++ [(⟨bt571.1,bt571.2.1⟩:S85)]) x84 x85 (wrap64 (x86+1)) x549000 x549001) else (none)) else (some false)) else (some false))) else (none)) else (none)) else (none)) else (none)) else (none)) else (none)) else ((impl_RegeneratePiece.f k x549000 x549001 x11 x15).bind fun bt579=>(if bt579.2.2=true then (if bt579.1=x11 then (if 0≤x11 then (if x11 < (x7.length:Int) then ((laws_sameBytes.f bt579.2.1 ((rd_T76 x7 x11).f1)).bind fun t586=>(laws_FnRegenerated.j2 k x1 (!t586))) else (none)) else (none)) else (laws_FnRegenerated.j2 k x1 true)) else (laws_FnRegenerated.j2 k x1 true)))
def laws_FnRegenerated.j2:Nat→List Int→Bool→Option (Bool)
 | 0,_,_=>none
 | k+1,x1,x144=>if x144=true then (some false) else (laws_FnRegenerated.j3 k x1)
end
def laws_FnRegenerated.f (k:Nat) (l0:List Int) (l1:List Int):Option (Bool):=if (wrap64 ((l0.length:Int)+(l1.length:Int))) > 1048576 then (some true) else ((spec_DrawEncodeMsr.f k l0).bind fun bt543=>((impl_EncodeMsr.f k bt543.1 bt543.2.1 bt543.2.2).bind fun bt549=>((spec_EncodeMsr.f k bt543.1 bt543.2.1 bt543.2.2).bind fun bt553=>(if (bt549.2 != bt553.2)=true then (some false) else (if bt549.2=true then ((laws_numberOf.f k l1).bind fun t557=>(if bt543.1=0 then (none) else (laws_FnRegenerated.l0 k l1 bt549.1 (Int.tmod t557 bt543.1) ([]:List Int) 0 bt543.1 bt543.2.1))) else (laws_FnRegenerated.j3 k l1))))))
theorem laws_FnRegenerated.mono_l:∀ k,(∀ y0,LeO (laws_FnRegenerated.j3 k y0) (laws_FnRegenerated.j3 (k+1) y0))∧(∀ y0 y1 y2 y3 y4 y5 y6,LeO (laws_FnRegenerated.l0 k y0 y1 y2 y3 y4 y5 y6) (laws_FnRegenerated.l0 (k+1) y0 y1 y2 y3 y4 y5 y6))∧(∀ y0 y1 y2 y3 y4 y5 y6 y7 y8 y9,LeO (laws_FnRegenerated.l1 k y0 y1 y2 y3 y4 y5 y6 y7 y8 y9) (laws_FnRegenerated.l1 (k+1) y0 y1 y2 y3 y4 y5 y6 y7 y8 y9))∧(∀ y0 y1,LeO (laws_FnRegenerated.j2 k y0 y1) (laws_FnRegenerated.j2 (k+1) y0 y1))
 | 0=>⟨fun _ r h=>by simp [laws_FnRegenerated.j3] at h,fun _ _ _ _ _ _ _ r h=>by simp [laws_FnRegenerated.l0] at h,fun _ _ _ _ _ _ _ _ _ _ r h=>by simp [laws_FnRegenerated.l1] at h,fun _ _ r h=>by simp [laws_FnRegenerated.j2] at h⟩
 | k+1=>by
  obtain ⟨ih0,ih1,ih2,ih3⟩:=laws_FnRegenerated.mono_l k
  refine ⟨?_,?_,?_,?_⟩
  ·intro y0
   unfold laws_FnRegenerated.j3
   exact mm
  ·intro y0 y1 y2 y3 y4 y5 y6
   unfold laws_FnRegenerated.l0
   exact mm
  ·intro y0 y1 y2 y3 y4 y5 y6 y7 y8 y9
   unfold laws_FnRegenerated.l1
   exact mm
  intro y0 y1
  unfold laws_FnRegenerated.j2
  exact mm
theorem laws_FnRegenerated.mono:∀ a0 a1 k,LeO (laws_FnRegenerated.f k a0 a1) (laws_FnRegenerated.f (k+1) a0 a1):=by
 intro a0 a1 k
 obtain ⟨ih0,ih1,ih2,ih3⟩:=laws_FnRegenerated.mono_l k
 unfold laws_FnRegenerated.f
 exact mm
def laws_FnRegenerated.T21:Bool × List (List Nat × List Nat):=(true,[([],[]),([],[]),([],[]),([],[]),([2,3],[2,3]),([4],[4]),([1,5],[1,5]),([6],[6]),([],[]),([0,7,8],[0,7,8]),([9],[9]),([10],[10]),([10],[10]),([],[]),([13,11,9,0,1,2,3,4,5,6,7,8,9,10,11,13],[11,13]),([12,14,0,1,2,3,4,5,6,7,8,9,10,11,12,13,14],[12])])
def laws_FnRegenerated.B21:List Nat:=[0,0,0,0,12,28,62,126,0,511,1023,2047,2047,0,12287,32767]
theorem laws_FnRegenerated.tab21:rtab .any (opsOf Try.f8 21)=laws_FnRegenerated.T21:=by kernel_rfl
theorem laws_FnRegenerated.bits21:waitsOk laws_FnRegenerated.T21.2 laws_FnRegenerated.B21=true:=by kernel_rfl
def laws_FnRegenerated.T22:Bool × List (List Nat × List Nat):=(true,[([],[]),([0],[0]),([1],[1]),([2],[2]),([3,2],[2,3]),([2],[2]),([2],[2]),([5,6,2],[2,5,6]),([7,2],[2,7]),([4,8,2],[2,4,8]),([2,9],[2,9])])
def laws_FnRegenerated.B22:List Nat:=[0,1,3,7,15,7,7,103,231,511,1023]
theorem laws_FnRegenerated.tab22:rtab .any (opsOf Try.f8 22)=laws_FnRegenerated.T22:=by kernel_rfl
theorem laws_FnRegenerated.bits22:waitsOk laws_FnRegenerated.T22.2 laws_FnRegenerated.B22=true:=by kernel_rfl
def laws_FnRegenerated.T27:Bool × List (List Nat × List Nat):=(true,[([],[]),([0],[0]),([1],[1]),([2],[2]),([3,2],[2,3]),([2],[2]),([4,5,2],[2,4,5]),([2,6],[2,6]),([7,2],[7]),([8],[8]),([9,8],[8,9]),([8],[8]),([8],[8]),([11,12,8],[8,11,12]),([13,8],[8,13]),([14,8],[8,14]),([10,15,8,8],[8,10,15]),([16,8],[8,16]),([8,17],[8,17])])
def laws_FnRegenerated.B27:List Nat:=[0,1,3,7,15,7,63,127,255,511,1023,511,511,6655,14847,31231,65535,131071,262143]
theorem laws_FnRegenerated.tab27:rtab .any (opsOf Try.f8 27)=laws_FnRegenerated.T27:=by kernel_rfl
theorem laws_FnRegenerated.bits27:waitsOk laws_FnRegenerated.T27.2 laws_FnRegenerated.B27=true:=by kernel_rfl
theorem laws_FnRegenerated.calls (k:Nat) (A0:Option Addr) (c0:Nat) (l0:List Int) (A1:Option Addr) (c1:Nat) (l1:List Int) (r:Bool) (w:World) (hr0:Kd.C (Kd.int .u8) w A0 l0.length l0) (hc0:l0.length≤c0) (hr1:Kd.C (Kd.int .u8) w A1 l1.length l1) (hc1:l1.length≤c1) (h:laws_FnRegenerated.f k l0 l1=some r) :
  Calls Try.prog 8 #[.slice A0 l0.length c0, .slice A1 l1.length c1] w fun e w'=>e = .returned (.bool r)∧Below w.heap.size w w':=by
 have hu30:=Try.underlying30
 have hu76:=Try.underlying76
 have hu85:=Try.underlying85
 have HR0:=am hr0
 have HC0:=am hc0
 clear hr0 hc0
 have HR1:=am hr1
 have HC1:=am hc1
 clear hr1 hc1
 have HB:=am (Below.refl w.heap.size w)
 have H:=h
 unfold laws_FnRegenerated.f at H
 clear h
 by_cases c3:(wrap64 ((l0.length:Int)+(l1.length:Int))) > 1048576
 ·rw [if_pos c3] at H
  have c3b0:decide (1048576 < (wrap64 ((l0.length:Int)+(l1.length:Int))))=true:=decide_eq_true c3
  clear c3
  obtain rfl:=Option.some.inj H
  go_enter Try.func8,Try.ntmps8
  go_wp2
  go_ret
  exact ⟨D3,yW HB⟩
 rw [if_neg c3] at H
 have c3b0:decide (1048576 < (wrap64 ((l0.length:Int)+(l1.length:Int))))=false:=decide_eq_false c3
 clear c3
 obtain ⟨⟨t543,t544,t545⟩,A4,H⟩:=yo H
 try dsimp only at H
 obtain ⟨⟨t549,t552⟩,A5,H⟩:=yo H
 try dsimp only at H
 obtain ⟨⟨t553,t556⟩,A6,H⟩:=yo H
 try dsimp only at H
 by_cases c7:(t552 != t556)=true
 ·rw [if_pos c7] at H
  have c7b0:(t552 != t556)=true:=c7
  (try (have c7b1:decide (t552=t556)=false:=by simpa using c7))
  (try (have c7b2:(t552 == t556)=false:=by simpa using c7))
  (try (have c7b3:¬ (t552=t556):=by simpa using c7))
  clear c7
  obtain rfl:=Option.some.inj H
  go_enter Try.func8,Try.ntmps8
  go_wp2_with (first|((with_reducible refine gC 43 ?_);refine gM (some 37) Try.func43 (args:=#[.slice A0 l0.length c0]) (spec_DrawEncodeMsr.calls k _ _ l0 t543 t544 t545 _ (yc HR0.out) HC0.out A4.out) ?_;rintro e w8 ⟨v546,rfl,ho0,hb⟩;refine ⟨_,rfl,?_⟩;have HO547:=am (Kd.R_lower ho0 (pz (yW HB)));replace HB:=yH HB hb;clear hb ho0)|((with_reducible refine gD 5 ?_);refine gB (cs:=#[.int .i64 0, .int .i64 0]) 30 ?_;intro gb548 hg w9 hbox hb;replace HO547:=bR HO547 hb;have BK548:=am (hbox);have GW548:=ye HB hg;replace HB:=yH HB hb;have GE548:=GW548;clear hb hbox hg;obtain ⟨hcz10_0,hcz10_1,hfz10_0,hfz10_1⟩:=yk2 BK548;obtain ⟨Ao11,co11,eo11⟩:=Kd.R_slice HO547.out;subst eo11)|((with_reducible refine gC 19 ?_);refine gM (some 43) Try.func19 (args:=#[.agg #[.int .i64 t543, .int .i64 t544], .slice Ao11 t545.length co11]) (impl_EncodeMsr.calls k t543 t544 _ _ t545 t549 t552 _ ?side1 ?side2 A5.out) ?_;(case side1=>refine (Kd.R_reads' (e:=5) (base:=w.heap.size) (ok:=fun k_=>True) (n:=t545.length) (c:=co11) ?_).2.2;exact D27);(case side2=>exact (Kd.R_reads' HO547.out).2.1);rintro e w12 ⟨v550,rfl,ho0,hb⟩;refine ⟨_,rfl,?_⟩;have HO551:=am (Kd.S_lower (Kd.S_new' ho0 (Kd.R_lt D27)) (pz (yW HB)));replace HO547:=am (Kd.R_below D27 hb);replace BK548:=am (qb (g:=gb548) (o:=.cells #[.int .i64 t543, .int .i64 t544] 30 (0,0)) D109 hb);replace HB:=yH HB hb;clear hb ho0;obtain ⟨hcz13_0,hcz13_1,hfz13_0,hfz13_1⟩:=yk2 BK548)|((with_reducible refine gC 18 ?_);refine gM (some 49) Try.func18 (args:=#[.agg #[.int .i64 t543, .int .i64 t544], .slice Ao11 t545.length co11]) (spec_EncodeMsr.calls k t543 t544 _ _ t545 t553 t556 _ (yc (Kd.R_reads' HO547.out).2.2) (Kd.R_reads' HO547.out).2.1 A6.out) ?_;rintro e w14 ⟨v554,rfl,ho0,hb⟩;refine ⟨_,rfl,?_⟩;have HO555:=am (Kd.S_lower (Kd.S_new' (Kd.S_new' ho0 (Kd.R_lt (yR HO547))) (Kd.S_lt (yS HO551))) (pz (yW HB)));replace HO547:=bR HO547 hb;replace HO551:=eS HO551 (Kd.S_base ho0) hb;replace BK548:=yb BK548 hb;replace HB:=yH HB hb;clear hb ho0))
  go_ret
  exact ⟨D3,yW HB⟩
 rw [if_neg c7] at H
 have c7b0:(t552 != t556)=false:=by simpa using c7
 (try (have c7b1:decide (t552=t556)=true:=by simpa using c7))
 (try (have c7b2:(t552 == t556)=true:=by simpa using c7))
 clear c7
 have HC15:=am H
 clear H
 go_enter Try.func8,Try.ntmps8
 go_upto_if 55 with (first|((with_reducible refine gC 43 ?_);refine gM (some 37) Try.func43 (args:=#[.slice A0 l0.length c0]) (spec_DrawEncodeMsr.calls k _ _ l0 t543 t544 t545 _ (yc HR0.out) HC0.out A4.out) ?_;rintro e w16 ⟨v546,rfl,ho0,hb⟩;refine ⟨_,rfl,?_⟩;have HO547:=am (Kd.R_lower ho0 (pz (yW HB)));replace HB:=yH HB hb;clear hb ho0)|((with_reducible refine gD 5 ?_);refine gB (cs:=#[.int .i64 0, .int .i64 0]) 30 ?_;intro gb548 hg w17 hbox hb;replace HO547:=bR HO547 hb;have BK548:=am (hbox);have GW548:=ye HB hg;replace HB:=yH HB hb;have GE548:=GW548;clear hb hbox hg;obtain ⟨hcz18_0,hcz18_1,hfz18_0,hfz18_1⟩:=yk2 BK548;obtain ⟨Ao19,co19,eo19⟩:=Kd.R_slice HO547.out;subst eo19)|((with_reducible refine gC 19 ?_);refine gM (some 43) Try.func19 (args:=#[.agg #[.int .i64 t543, .int .i64 t544], .slice Ao19 t545.length co19]) (impl_EncodeMsr.calls k t543 t544 _ _ t545 t549 t552 _ ?side1 ?side2 A5.out) ?_;(case side1=>refine (Kd.R_reads' (e:=5) (base:=w.heap.size) (ok:=fun k_=>True) (n:=t545.length) (c:=co19) ?_).2.2;exact D27);(case side2=>exact (Kd.R_reads' HO547.out).2.1);rintro e w20 ⟨v550,rfl,ho0,hb⟩;refine ⟨_,rfl,?_⟩;have HO551:=am (Kd.S_lower (Kd.S_new' ho0 (Kd.R_lt D27)) (pz (yW HB)));replace HO547:=am (Kd.R_below D27 hb);replace BK548:=am (qb (g:=gb548) (o:=.cells #[.int .i64 t543, .int .i64 t544] 30 (0,0)) D109 hb);replace HB:=yH HB hb;clear hb ho0;obtain ⟨hcz21_0,hcz21_1,hfz21_0,hfz21_1⟩:=yk2 BK548)|((with_reducible refine gC 18 ?_);refine gM (some 49) Try.func18 (args:=#[.agg #[.int .i64 t543, .int .i64 t544], .slice Ao19 t545.length co19]) (spec_EncodeMsr.calls k t543 t544 _ _ t545 t553 t556 _ (yc (Kd.R_reads' HO547.out).2.2) (Kd.R_reads' HO547.out).2.1 A6.out) ?_;rintro e w22 ⟨v554,rfl,ho0,hb⟩;refine ⟨_,rfl,?_⟩;have HO555:=am (Kd.S_lower (Kd.S_new' (Kd.S_new' ho0 (Kd.R_lt (yR HO547))) (Kd.S_lt (yS HO551))) (pz (yW HB)));replace HO547:=bR HO547 hb;replace HO551:=eS HO551 (Kd.S_base ho0) hb;replace BK548:=yb BK548 hb;replace HB:=yH HB hb;clear hb ho0))
 (try simp only [Act.put,q1,q2,q3])
 go_cut [] (fun wc=>∃ (kq:Nat),Aside0 (laws_FnRegenerated.j3 kq l1=some r)∧Aside0 (kq≤k)∧Aside0 (wc.heap[gb548]? = some (.cells #[.int .i64 t543, .int .i64 t544] 30 (0,0)))∧Aside0 (Below w.heap.size w wc))
 case first =>
  have H:=HC15.out
  clear HC15
  by_cases c23:t552=true
  ·subst c23
   replace H:=yt H
   obtain ⟨t557,A24,H⟩:=yo H
   by_cases c25:t543=0
   ·rw [if_pos c25] at H
    exact absurd H D44
   rw [if_neg c25] at H
   have c25b0:(t543 == 0)=false:=beq_eq_false_iff_ne.mpr c25
   have c25b1:(t543 != 0)=true:=bne_iff_ne.mpr c25
   (first|rw [c25b0]|(simp only [i64_w,i32_w];rw [c25b0])|skip)
   have H':=am H
   clear H
   try go_wp2
   replace HO547:=am (Kd.R_drew HO547.out)
   replace HO551:=am (Kd.S_drew HO551.out)
   replace HO555:=am (Kd.S_drew HO555.out)
   replace BK548:=am (qd BK548.out)
   replace HB:=am (pd HB.out)
   refine rS0 (n:=6) (S:=fun w'=>w'.cell? ⟨gb548,0,none⟩=some (.int .i64 t543)∧w'.cell? ⟨gb548,1,none⟩=some (.int .i64 t544)) (ds:=[]) [(0,56),(2,58),(3,59),(1,0),(4,60),(5,11)] D2 rfl ⟨yk BK548 0,yk BK548 1⟩ (fun hHeld HT_ HW_=>?_)
   generalize w22.drew=w26 at HO547 HO551 HO555 BK548 HB hHeld ⊢
   refine rR ?_
   refine rO (N:=some 57) HT_ rfl rfl D2 D5 (fun K hK=>?_)
   refine goes_ Try.func36 D2 rfl #[.slice A1 l1.length c1] D16 rfl rfl D8 ?_
   with_reducible refine (laws_numberOf.calls k _ _ l1 t557 _ (yc (Kd.C_below HR1.out HB.out)) HC1.out A24.out).mono ?_
   rintro e w' ⟨rfl,⟨nd,rfl⟩⟩
   refine ⟨_,rfl,?_⟩
   refine hK.out _ _ ⟨yk BK548 0,yk BK548 1⟩ (fun hHeld=>?_)
   clear hK K
   refine rN (nA 57) ?_
   refine rR ?_
   refine rD HT_ D2 ?_
   try go_wp2
   go_loopg [12,13] k (fun kq v12 v13 w'=>∃ (x12_1:List Int) (x13_1:Int),v13 = .int .i64 x13_1∧Aside0 (laws_FnRegenerated.l0 kq l1 t549 (Int.tmod t557 t543) x12_1 x13_1 t543 t544=some r)∧Aside0 (kq≤k)∧Aside0 (Kd.S k76 76 w' w.heap.size (fun _=>True) v550 t549)∧Aside0 (Kd.R (Kd.int .i64) 3 w' w.heap.size (fun _=>True) v12 x12_1)∧Aside0 (w'.heap[gb548]? = some (.cells #[.int .i64 t543, .int .i64 t544] 30 (0,0)))∧Aside0 (Below w.heap.size w w'))
   case atStart=>exact ⟨(([]:List Int)),(0),D1,H',⟨Nat.le_refl _⟩,⟨by refine sS ?_;exact Kd.S_mono HO551.out (fun _ hk=>trivial)⟩,⟨D10⟩,⟨yB BK548⟩,⟨yW HB⟩⟩
   case round =>
    clear H'
    try clear c1
    try clear c2
    try clear p2
    try clear c3
    try clear c3b0
    try clear c4
    try clear p6
    try clear c7
    try clear c7b0
    try clear c7b1
    try clear c7b2
    try clear c8
    try clear c18
    try clear c19
    try clear c23
    try clear c25
    try clear c25b0
    try clear c25b1
    try clear hcz10_0
    try clear hcz10_1
    try clear hcz13_0
    try clear hcz13_1
    try clear hcz18_0
    try clear hcz18_1
    try clear hcz21_0
    try clear hcz21_1
    try clear hfz10_0
    try clear hfz10_1
    try clear hfz13_0
    try clear hfz13_1
    try clear hfz18_0
    try clear hfz18_1
    try clear hfz21_0
    try clear hfz21_1
    obtain ⟨x12_1,x13_1,rfl,HA,HK1,HO_7,HO_12,BK548,HB⟩:=hrel
    cases gk with
    | zero=>exact absurd HA.out (by simp [laws_FnRegenerated.l0])
    | succ k1 =>
     have H:=HA.out
     clear HA
     simp only [laws_FnRegenerated.l0] at H
     by_cases c27:x13_1 < t543
     ·rw [if_pos c27] at H
      have c27b0:=decide_eq_true c27
      clear c27
      by_cases c28:x13_1=(Int.tmod t557 t543)
      ·rw [if_pos c28] at H
       have c28b0:(x13_1 == (Int.tmod t557 t543))=true:=beq_iff_eq.mpr c28
       have c28b1:(x13_1 != (Int.tmod t557 t543))=false:=bne_eq_false_iff_eq.mpr c28
       clear c28
       have H':=am H
       clear H
       obtain ⟨hcz29_0,hcz29_1,hfz29_0,hfz29_1⟩:=yk2 BK548
       go_wp2
       go_roundg k1
       case measure=>have:=HK1.out;omega
       case rel=>exact ⟨(x12_1),(wrap64 (x13_1+1)),D1,H',⟨D38⟩,⟨yS HO_7⟩,⟨yR HO_12⟩,⟨yB BK548⟩,⟨yW HB⟩⟩
      rw [if_neg c28] at H
      have c28b0:(x13_1 == (Int.tmod t557 t543))=false:=beq_eq_false_iff_ne.mpr c28
      have c28b1:(x13_1 != (Int.tmod t557 t543))=true:=bne_iff_ne.mpr c28
      by_cases c30:x12_1.length < 17592186044416
      ·rw [if_pos c30] at H
       have LMc30:=am c30
       clear c30
       generalize hy558:(x12_1 ++ [x13_1]:List Int)=y558 at H
       have Ny558:=am hy558.symm
       clear hy558
       have H':=am H
       clear H
       obtain ⟨hcz31_0,hcz31_1,hfz31_0,hfz31_1⟩:=yk2 BK548
       go_wp2_with (first|((with_reducible refine gate_builtin (b:=.append) (xs:=#[.tmp 70, .tmp 72]) rfl ?_);at_builtin;refine Kd.R_append (Kd.int .i64) (w0:=w) w.heap.size rfl (.tmp 70) (.tmp 72) 62 3 (.int .i64 0) 8 rfl Try.underlying62 info3 rfl D5 D13 u12 x12_1 x13_1 [.int .i64 x13_1] (fun _=>True) (fun _=>False) rfl rfl D98 (fun _ hk=>hk.elim) D43 (by exact (yR HO_12)) D64 D47 (by have:=LMc30.out;omega) ?_;intro v559 w32 ho hb hg hat;rw [← Ny558.out] at ho;have n0_:=am (Kd.S_over' (yS HO_7) (Kd.R_typed (yR HO_12)) D5 hg);have n1_:=am (blk_grown (g:=gb548) (o:=.cells #[.int .i64 t543, .int .i64 t544] 30 (0,0)) (yB BK548) hg (Kd.R_ne HO_12.out BK548.out D5));have n2_:=am (hb);have n3_:=am (ho);clear HO_7 BK548 HB HO_12;have HO_7:=n0_;have BK548:=n1_;have HB:=n2_;have HO560:=n3_;clear n0_ n1_ n2_ n3_ ho hb hg hat))
       go_roundg k1
       case measure=>have:=HK1.out;omega
       case rel=>exact ⟨(y558),(wrap64 (x13_1+1)),D1,H',⟨D38⟩,⟨yS HO_7⟩,⟨yR HO560⟩,⟨yB BK548⟩,⟨yW HB⟩⟩
      rw [if_neg c30] at H
      exact absurd H D44
     rw [if_neg c27] at H
     have c27b0:=decide_eq_false c27
     clear c27
     obtain ⟨t561,A33,H⟩:=yo H
     generalize hji34:(wrap64 (2*(wrap64 (t544 - 1))))=ji34 at H
     (try rw [hji34] at A33)
     have hji34w:(IntKind.i64.wrap (2*(wrap64 (t544 - 1))))=ji34:=(i64_w _).trans hji34
     by_cases c35:0≤(ji34)
     ·rw [if_pos c35] at H
      have c35b0:=eq_true c35
      have c35b1:decide (0≤(ji34))=true:=decide_eq_true c35
      clear c35
      by_cases c36:(ji34)≤(t561.length:Int)
      ·rw [if_pos c36] at H
       have c36b0:=eq_true c36
       have c36b1:decide ((ji34)≤(t561.length:Int))=true:=decide_eq_true c36
       clear c36
       obtain ⟨y564,hy564,H⟩:=ys H
       have Ny564:=am hy564
       clear hy564
       have H':=am H
       clear H
       obtain ⟨hcz37_0,hcz37_1,hfz37_0,hfz37_1⟩:=yk2 BK548
       obtain ⟨Ao38,co38,eo38⟩:=Kd.R_slice HO_12.out
       subst eo38
       go_wp2_with (first|((with_reducible refine gC 37 ?_);refine gM (some 82) Try.func37 (args:=#[.int .i64 (x12_1.length:Int), .int .i64 ji34, .slice A1 l1.length c1]) (laws_someOf.calls k1 (x12_1.length:Int) ji34 _ _ l1 t561 _ (yc (Kd.C_below HR1.out HB.out)) HC1.out A33.out) ?_;rintro e w39 ⟨v562,rfl,ho0,hb⟩;refine ⟨_,rfl,?_⟩;replace HO_7:=bS HO_7 hb;have HO563:=am (Kd.R_lower (Kd.R_new' ho0 (Kd.R_lt (yR HO_12))) (pz (yW HB)));replace HO_12:=eR HO_12 (Kd.R_base ho0) hb;replace BK548:=yb BK548 hb;replace HB:=yH HB hb;clear hb ho0;obtain ⟨Ao41,co41,eo41⟩:=Kd.R_slice HO563.out;subst eo41;have q40:((ji34):Int)≤((t561.length:Int):Int):=od D0;obtain ⟨i040,hi040,_,hsz40,_⟩:=info_parts info3;have hroom40:t561.length≤co41:=(Kd.R_reads' HO563.out).2.1;have hC40:Kd.C (Kd.int .i64) _ Ao41 t561.length t561:=(Kd.R_reads' HO563.out).2.2;have hcut40:=cut_to (P:=Try.prog) 62 3 .i64 Try.underlying62 hi040 Ao41 t561.length co41 (ji34) (od D0) q40 hroom40;have hr40:=Kd.C_take (m:=((ji34):Int).toNat) hC40 D13;have hy40:y564.length=((ji34):Int).toNat:=(by rw [Ny564.out,List.length_take];omega);rw [← Ny564.out] at hr40;rw [← hy40] at hcut40;have HR567:=am hr40;have HC567:=am (show y564.length≤co41 from by omega);clear hr40 hC40 hroom40 hi040 hsz40;have KY40:=am hy40;clear hy40;have KL40:=am (show ((ji34):Int).toNat≤t561.length from by omega);replace q40:=eq_true q40))
       go_loopg [15,86] k1 (fun kq v15 v86 w'=>∃ (x15_2:List (S85)) (x86_2:Int),v86 = .int .i64 x86_2∧Aside0 (laws_FnRegenerated.l1 kq l1 t549 (Int.tmod t557 t543) x12_1 x15_2 y564 (y564.length:Int) x86_2 t543 t544=some r)∧Aside0 (kq≤k1)∧Aside0 (Kd.S k76 76 w' w.heap.size (fun _=>True) v550 t549)∧Aside0 (Kd.R (Kd.int .i64) 3 w' w.heap.size (fun _=>True) (.slice Ao38 x12_1.length co38) x12_1)∧ Aside0 (Kd.R (Kd.int .i64) 3 w' w.heap.size (fun _=>True) (.slice Ao41 t561.length co41) t561)∧Aside0 (Kd.R k85 85 w' w.heap.size (fun _=>True) v15 x15_2)∧Aside0 (w'.heap[gb548]? = some (.cells #[.int .i64 t543, .int .i64 t544] 30 (0,0)))∧Aside0 (Below w.heap.size w w'))
       case atStart=>exact ⟨(([]:List (S85))),(0),D1,H',⟨Nat.le_refl _⟩,⟨yS HO_7⟩,⟨by refine sR ?_;exact Kd.R_mono HO_12.out (fun _ hk=>trivial)⟩,⟨by refine sR ?_;exact Kd.R_mono HO563.out (fun _ hk=>trivial)⟩,⟨D10⟩,⟨yB BK548⟩,⟨yW HB⟩⟩
       case round =>
        clear H'
        try clear HO_12
        try clear c1
        try clear c2
        try clear p2
        try clear c3
        try clear c3b0
        try clear c4
        try clear q4
        try clear p6
        try clear c7
        try clear c7b0
        try clear c7b1
        try clear c7b2
        try clear c8
        try clear c18
        try clear c19
        try clear c23
        try clear c25
        try clear c25b0
        try clear c25b1
        try clear c27
        try clear c27b0
        try clear c28
        try clear c28b0
        try clear c28b1
        try clear c30
        try clear c35
        try clear c35b0
        try clear c35b1
        try clear c36
        try clear c36b0
        try clear c36b1
        try clear c37
        try clear q40
        try clear hcz10_0
        try clear hcz10_1
        try clear hcz13_0
        try clear hcz13_1
        try clear hcz18_0
        try clear hcz18_1
        try clear hcz21_0
        try clear hcz21_1
        try clear hcz29_0
        try clear hcz29_1
        try clear hcz31_0
        try clear hcz31_1
        try clear hcz37_0
        try clear hcz37_1
        try clear hfz10_0
        try clear hfz10_1
        try clear hfz13_0
        try clear hfz13_1
        try clear hfz18_0
        try clear hfz18_1
        try clear hfz21_0
        try clear hfz21_1
        try clear hfz29_0
        try clear hfz29_1
        try clear hfz31_0
        try clear hfz31_1
        try clear hfz37_0
        try clear hfz37_1
        try clear p2
        try clear p6
        try clear q40
        obtain ⟨x15_2,x86_2,rfl,HA,HK2,HO_7,HO_12,HO_563,HO_15,BK548,HB⟩:=hrel
        cases gk with
        | zero=>exact absurd HA.out (by simp [laws_FnRegenerated.l1])
        | succ k2 =>
         have H:=HA.out
         clear HA
         simp only [laws_FnRegenerated.l1] at H
         by_cases c42:x86_2 < (y564.length:Int)
         ·rw [if_pos c42] at H
          have c42b0:=decide_eq_true c42
          clear c42
          by_cases c43:0≤x86_2
          ·rw [if_pos c43] at H
           have c43b0:=decide_eq_true c43
           clear c43
           by_cases c44:x86_2 < (y564.length:Int)
           ·rw [if_pos c44] at H
            have c44b0:=decide_eq_true c44
            clear c44
            by_cases c45:0≤(rd y564 x86_2)
            ·rw [if_pos c45] at H
             have c45b0:=decide_eq_true c45
             clear c45
             by_cases c46:(rd y564 x86_2) < (x12_1.length:Int)
             ·rw [if_pos c46] at H
              have c46b0:=decide_eq_true c46
              clear c46
              by_cases c47:0≤(rd x12_1 (rd y564 x86_2))
              ·rw [if_pos c47] at H
               have c47b0:=decide_eq_true c47
               clear c47
               by_cases c48:(rd x12_1 (rd y564 x86_2)) < (t549.length:Int)
               ·rw [if_pos c48] at H
                have c48b0:=decide_eq_true c48
                clear c48
                obtain ⟨⟨t571,t572,t573⟩,A49,H⟩:=yo H
                try dsimp only at H
                by_cases c50:t573=true
                ·subst c50
                 replace H:=yt H
                 by_cases c51:t571=(rd x12_1 (rd y564 x86_2))
                 ·rw [if_pos c51] at H
                  have c51b0:(t571 == (rd x12_1 (rd y564 x86_2)))=true:=beq_iff_eq.mpr c51
                  have c51b1:(t571 != (rd x12_1 (rd y564 x86_2)))=false:=bne_eq_false_iff_eq.mpr c51
                  clear c51
                  by_cases c52:x15_2.length < 8796093022208
                  ·rw [if_pos c52] at H
                   have LMc52:=am c52
                   clear c52
                   generalize hy576:(x15_2 ++ [(⟨t571,t572⟩:S85)]:List (S85))=y576 at H
                   have Ny576:=am hy576.symm
                   clear hy576
                   have H':=am H
                   clear H
                   have p568:0≤(x86_2:Int):=od D0
                   have q568:x86_2 < (y564.length:Int):=od D0
                   have hz_:=Kd.C_take (m:=((ji34):Int).toNat) (Kd.R_reads' HO_563.out).2.2 KL40.out
                   rw [← Ny564.out] at hz_
                   obtain ⟨ad568,e568,hx568_0⟩:=Kd.at_int hz_ x86_2 p568 q568
                   clear hz_
                   cases e568
                   replace p568:=eq_true p568
                   replace q568:=eq_true q568
                   try go_wp2
                   replace HO_7:=am (Kd.S_drew HO_7.out)
                   replace HO_12:=am (Kd.R_drew HO_12.out)
                   replace HO_563:=am (Kd.R_drew HO_563.out)
                   replace HO_15:=am (Kd.R_drew HO_15.out)
                   replace BK548:=am (qd BK548.out)
                   replace HB:=am (pd HB.out)
                   have p569:0≤((rd y564 x86_2):Int):=od D0
                   have q569:(rd y564 x86_2) < (x12_1.length:Int):=od D0
                   obtain ⟨ad569,e569,hx569_0⟩:=Kd.at_int (Kd.R_reads' HO_12.out).2.2 (rd y564 x86_2) p569 q569
                   cases e569
                   replace p569:=eq_true p569
                   replace q569:=eq_true q569
                   obtain ⟨Ao54,co54,eo54⟩:=Kd.S_slice HO_7.out
                   (first|subst eo54|(injection eo54 with f1_ f2_ f3_;have f4_:=f1_.symm;have f5_:=f3_.symm;clear f1_ f2_ f3_;subst f4_;subst f5_))
                   have p570:0≤((rd x12_1 (rd y564 x86_2)):Int):=od D0
                   have q570:(rd x12_1 (rd y564 x86_2)) < (t549.length:Int):=od D0
                   obtain ⟨ad570,A570_1,c570_1,e570,hx570_0,hx570_1,hl570_1,hi570_1⟩:=at_T76 (Kd.S_reads' HO_7.out).2.2 (rd x12_1 (rd y564 x86_2)) p570 q570
                   cases e570
                   obtain ⟨ce570,hce570,hMe570,hcc570⟩:=Kd.S_get HO_7.out z76 (rd x12_1 (rd y564 x86_2)) p570 D116
                   obtain ⟨ve570_1,rfl,ge570_1⟩:=k76_openM hMe570
                   have hv570_1:=hcc570 1 _ rfl
                   rw [add_field _ _ 1 D13] at hv570_1
                   replace hv570_1:=Option.some.inj (hv570_1.symm.trans hx570_1)
                   rw [hv570_1] at ge570_1
                   have HL570_1:=am (show Kd.R (Kd.int .u8) 5 _ _ _ _ ((rd_T76 t549 (rd x12_1 (rd y564 x86_2))).f1) from ge570_1)
                   clear hv570_1 ge570_1
                   clear hcc570 hce570
                   have HR570_1:=am hi570_1
                   have HC570_1:=am hl570_1
                   clear hi570_1 hl570_1
                   replace p570:=eq_true p570
                   replace q570:=eq_true q570
                   refine start_ (n:=16) (S:=fun w'=>w'.cell? ⟨gb548,0,none⟩=some (.int .i64 t543)∧w'.cell? ⟨gb548,1,none⟩=some (.int .i64 t544)∧w'.cell? (ad569.add ((rd y564 x86_2)).toNat)=some (.int .i64 (rd x12_1 (rd y564 x86_2)))∧w'.cell? (ad570.add (((rd x12_1 (rd y564 x86_2))).toNat*2))=some (.int .i64 ((rd_T76 t549 (rd x12_1 (rd y564 x86_2))).f0))∧w'.cell? ⟨(ad570.add (((rd x12_1 (rd y564 x86_2))).toNat*2)).block,(ad570.add (((rd x12_1 (rd y564 x86_2))).toNat*2)).off+1,none⟩=some (.slice A570_1 ((rd_T76 t549 (rd x12_1 (rd y564 x86_2))).f1).length c570_1)) (ds:=[]) #[Z,Z,Z,Z,Z,Z,Z,Z,Z,Z,Z,Z,Z,Z,Z,Z] D2 rfl rfl ⟨yk BK548 0,yk BK548 1,hx569_0,hx570_0,hx570_1⟩ (fun hHeld=>?_);refine with_tabW laws_FnRegenerated.tab21 laws_FnRegenerated.bits21 (fun HT_ HW_=>?_)
                   generalize wr.drew=w53 at HO_7 HO_12 HO_563 HO_15 BK548 HB HL570_1 HR570_1 hx569_0 hx570_0 hx570_1 hHeld ⊢
                   refine pure_ (i:=1) (N:=some 92) (v:=?_) (a':=?_) #[Z,Y,Z,Z,Z,Z,Z,Z,Z,Z,Z,Z,Z,Z,Z,Z] rfl rfl (any_of HT_.out D2) hh (Or.inl ⟨D16,?_⟩) ?_ ?_
                   rotate_left
                   ·intro w'
                    go_simp
                    with_reducible rfl
                   rotate_left
                   ·simp only [Act.put,q1,q2,q3,i64_w,i32_w]
                    rfl
                   refine pure_ (i:=2) (N:=some 93) (v:=?_) (a':=?_) #[Z,Y,Y,Z,Z,Z,Z,Z,Z,Z,Z,Z,Z,Z,Z,Z] rfl rfl (any_of HT_.out D2) hh (Or.inl ⟨D16,?_⟩) ?_ ?_
                   rotate_left
                   ·intro w'
                    go_simp
                    with_reducible rfl
                   rotate_left
                   ·simp only [Act.put,q1,q2,q3,i64_w,i32_w]
                    rfl
                   refine pure_ (i:=3) (N:=some 94) (v:=?_) (a':=?_) #[Z,Y,Y,Y,Z,Z,Z,Z,Z,Z,Z,Z,Z,Z,Z,Z] rfl rfl (any_of HT_.out D2) hh (Or.inl ⟨D16,?_⟩) ?_ ?_
                   rotate_left
                   ·intro w'
                    go_simp
                    with_reducible rfl
                   rotate_left
                   ·simp only [Act.put,q1,q2,q3,i64_w,i32_w]
                    rfl
                   refine pure_ (i:=4) (N:=some 95) (v:=?_) (a':=?_) #[Z,Y,Y,Y,Y,Z,Z,Z,Z,Z,Z,Z,Z,Z,Z,Z] rfl rfl (any_of HT_.out D2) hh (Or.inl ⟨D16,?_⟩) ?_ ?_
                   rotate_left
                   ·intro w'
                    go_simp
                    with_reducible rfl
                   rotate_left
                   ·simp only [Act.put,q1,q2,q3,i64_w,i32_w]
                    rfl
                   refine pure_ (i:=8) (N:=some 99) (v:=?_) (a':=?_) #[Z,Y,Y,Y,Y,Z,Z,Z,Y,Z,Z,Z,Z,Z,Z,Z] rfl rfl (any_of HT_.out D2) hh (Or.inl ⟨D16,?_⟩) ?_ ?_
                   rotate_left
                   ·intro w'
                    go_simp
                    with_reducible rfl
                   rotate_left
                   ·simp only [Act.put,q1,q2,q3,i64_w,i32_w]
                    rfl
                   refine take_ (i:=0) (N:=some 91) (v:=?_) (a':=?_) #[Y,Y,Y,Y,Y,Z,Z,Z,Y,Z,Z,Z,Z,Z,Z,Z] rfl rfl (take_ofW HT_.out HW_.out D2) hh (Or.inl ⟨D16,?_⟩) hHeld ?_ ?_
                   rotate_left
                   ·rintro w' ⟨s0,s1,s2,s3,s4⟩
                    go_simp
                    with_reducible rfl
                   rotate_left
                   ·simp only [Act.put,q1,q2,q3,i64_w,i32_w]
                    rfl
                   refine take_ (i:=5) (N:=some 96) (v:=?_) (a':=?_) #[Y,Y,Y,Y,Y,Y,Z,Z,Y,Z,Z,Z,Z,Z,Z,Z] rfl rfl (take_ofW HT_.out HW_.out D2) hh (Or.inl ⟨D16,?_⟩) hHeld ?_ ?_
                   rotate_left
                   ·rintro w' ⟨s0,s1,s2,s3,s4⟩
                    go_simp
                    with_reducible rfl
                   rotate_left
                   ·simp only [Act.put,q1,q2,q3,i64_w,i32_w]
                    rfl
                   refine pure_ (i:=6) (N:=some 97) (v:=?_) (a':=?_) #[Y,Y,Y,Y,Y,Y,Y,Z,Y,Z,Z,Z,Z,Z,Z,Z] rfl rfl (any_of HT_.out D2) hh (Or.inl ⟨D16,?_⟩) ?_ ?_
                   rotate_left
                   ·intro w'
                    go_simp
                    with_reducible rfl
                   rotate_left
                   ·simp only [Act.put,q1,q2,q3,i64_w,i32_w]
                    rfl
                   refine take_ (i:=7) (N:=some 98) (v:=?_) (a':=?_) #[Y,Y,Y,Y,Y,Y,Y,Y,Y,Z,Z,Z,Z,Z,Z,Z] rfl rfl (take_ofW HT_.out HW_.out D2) hh (Or.inl ⟨D16,?_⟩) hHeld ?_ ?_
                   rotate_left
                   ·rintro w' ⟨s0,s1,s2,s3,s4⟩
                    go_simp
                    with_reducible rfl
                   rotate_left
                   ·simp only [Act.put,q1,q2,q3,i64_w,i32_w]
                    rfl
                   refine join_ (σ:=Nat) 2 #[Y,Y,Y,Y,Y,Y,Y,Y,Y,Y,Y,Y,Y,Y,Z,Z] (fun s_=>[(100, .tuple #[.agg #[.int .i64 t571, .int .u8 t572], .bool true]),(18, .pointer (some ⟨s_,0,none⟩)),(90, .tuple #[.agg #[.int .i64 t571, .int .u8 t572], .bool true]),(101, .agg #[.int .i64 t571, .int .u8 t572]),(102, .bool true)]) (fun s_ w'=>(w'.cell? ⟨gb548,0,none⟩=some (.int .i64 t543)∧w'.cell? ⟨gb548,1,none⟩=some (.int .i64 t544)∧w'.cell? (ad569.add ((rd y564 x86_2)).toNat)=some (.int .i64 (rd x12_1 (rd y564 x86_2)))∧w'.cell? (ad570.add (((rd x12_1 (rd y564 x86_2))).toNat*2))=some (.int .i64 ((rd_T76 t549 (rd x12_1 (rd y564 x86_2))).f0))∧w'.cell? ⟨(ad570.add (((rd x12_1 (rd y564 x86_2))).toNat*2)).block,(ad570.add (((rd x12_1 (rd y564 x86_2))).toNat*2)).off+1,none⟩=some (.slice A570_1 ((rd_T76 t549 (rd x12_1 (rd y564 x86_2))).f1).length c570_1))∧(Kd.R (Kd.int .u8) 5 w' w.heap.size (fun k_=>some k_ ≠ (.slice (some ad570) t549.length co54:Value).ownBlock) (.slice A570_1 ((rd_T76 t549 (rd x12_1 (rd y564 x86_2))).f1).length c570_1) ((rd_T76 t549 (rd x12_1 (rd y564 x86_2))).f1))∧(Kd.R (Kd.int .i64) 3 w' w.heap.size (fun _=>True) (.slice (some ad569) x12_1.length co38) x12_1)∧(Kd.R (Kd.int .i64) 3 w' w.heap.size (fun _=>True) (.slice (some ad568) t561.length co41) t561)∧(Kd.R k85 85 w' w.heap.size (fun k_=>k_ ≠ s_) u15 x15_2)∧(Kd.S k76 76 w' w.heap.size (fun _=>True) (.slice (some ad570) t549.length co54) t549)∧(w'.heap[gb548]? = some (.cells #[.int .i64 t543, .int .i64 t544] 30 (0,0)))∧(w'.heap[s_]? = some (.cells #[.int .i64 0, .int .u8 0] 85 (0,0)))∧(w.heap.size≤s_)∧(w.heap.size≤s_)∧(gb548 ≠ s_)∧(s_ ≠ gb548)∧(Below w.heap.size w w')) ?_ ?_
                   rotate_left
                   ·intro hCont
                    refine two_ (i:=9) (j:=13) (Ni:=some 100) (Nj:=some 18) #[Y,Y,Y,Y,Y,Y,Y,Y,Y,Y,Z,Z,Z,Z,Z,Z] #[Y,Y,Y,Y,Y,Y,Y,Y,Y,Z,Z,Z,Z,Y,Z,Z] rfl rfl rfl rfl (two_of HT_.out D2) D5 D5 (fun K hK=>?_) (fun K hK=>?_)
                    ·skip
                     refine goes_ Try.func54 D2 rfl #[.agg #[.int .i64 t543, .int .i64 t544], .agg #[.int .i64 ((rd_T76 t549 (rd x12_1 (rd y564 x86_2))).f0), .slice A570_1 ((rd_T76 t549 (rd x12_1 (rd y564 x86_2))).f1).length c570_1], .int .i64 (Int.tmod t557 t543)] D16 rfl rfl D8 ?_
                     with_reducible refine (impl_HelpFor.calls k2 t543 t544 ((rd_T76 t549 (rd x12_1 (rd y564 x86_2))).f0) _ _ ((rd_T76 t549 (rd x12_1 (rd y564 x86_2))).f1) (Int.tmod t557 t543) t571 t572 true _ ?side1 ?side2 A49.out).mono ?_
                     (case side1=>repeat (first|exact D6|(with_reducible refine Kd.C_alloc ?_ _)|(with_reducible refine Kd.C_drewN ?_ _)|(with_reducible refine Kd.C_drew ?_)))
                     (case side2=>exact HC570_1.out)
                     rintro e w55 ⟨rfl,hb⟩
                     have HS2_:=(hb.cell (World.block_lt_of_cell? _ _ (hHeld.2.2.1))).trans (hHeld.2.2.1)
                     have HS3_:=(hb.cell (World.block_lt_of_cell? _ _ (hHeld.2.2.2.1))).trans (hHeld.2.2.2.1)
                     have HS4_:=(hb.cell (World.block_lt_of_cell? _ _ (hHeld.2.2.2.2))).trans (hHeld.2.2.2.2)
                     refine ⟨_,rfl,?_⟩
                     replace HO_7:=bS HO_7 hb
                     replace HO_12:=bR HO_12 hb
                     replace HO_563:=bR HO_563 hb
                     replace HO_15:=bR HO_15 hb
                     replace HL570_1:=bR HL570_1 hb
                     replace BK548:=yb BK548 hb
                     replace HR570_1:=am (Kd.C_below D6 hb)
                     replace HB:=yH HB hb
                     (try clear hb)
                     (try clear hb2)
                     (try clear hk)
                     (try clear hi)
                     refine hK.out _ _ ⟨yk BK548 0,yk BK548 1,HS2_,HS3_,HS4_⟩ (fun hHeld=>?_)
                     clear hK K
                     refine norm_ (nA 100) ?_
                     refine pure_ (i:=10) (N:=some 90) (v:=?_) (a':=?_) #[Y,Y,Y,Y,Y,Y,Y,Y,Y,Y,Y,Z,Z,Z,Z,Z] rfl rfl (any_of HT_.out D2) hh (Or.inl ⟨D16,?_⟩) ?_ ?_
                     rotate_left
                     ·intro w'
                      go_simp
                      with_reducible rfl
                     rotate_left
                     ·simp only [Act.put,q1,q2,q3,i64_w,i32_w]
                      rfl
                     refine pure_ (i:=11) (N:=some 101) (v:=?_) (a':=?_) #[Y,Y,Y,Y,Y,Y,Y,Y,Y,Y,Y,Y,Z,Z,Z,Z] rfl rfl (any_of HT_.out D2) hh (Or.inl ⟨D16,?_⟩) ?_ ?_
                     rotate_left
                     ·intro w'
                      go_simp
                      with_reducible rfl
                     rotate_left
                     ·simp only [Act.put,q1,q2,q3,i64_w,i32_w]
                      rfl
                     refine pure_ (i:=12) (N:=some 102) (v:=?_) (a':=?_) #[Y,Y,Y,Y,Y,Y,Y,Y,Y,Y,Y,Y,Y,Z,Z,Z] rfl rfl (any_of HT_.out D2) hh (Or.inl ⟨D16,?_⟩) ?_ ?_
                     rotate_left
                     ·intro w'
                      go_simp
                      with_reducible rfl
                     rotate_left
                     ·simp only [Act.put,q1,q2,q3,i64_w,i32_w]
                      rfl
                     refine one_ (i:=13) (N:=some 18) #[Y,Y,Y,Y,Y,Y,Y,Y,Y,Y,Y,Y,Y,Y,Z,Z] rfl rfl (one_of HT_.out D2) D5 (fun K hK=>?_)
                     refine box_step ?hg (N:=18) ?hd (cs:=#[.int .i64 0, .int .u8 0]) (t:=85) ?hr ?_;(case hd=>rfl);(case hg=>rfl);(case hr=>first|(go_simp;done)|(go_simp;rfl))
                     intro gb574 hg w56 hbox hb
                     have HS2_:=(hb.cell (World.block_lt_of_cell? _ _ (hHeld.2.2.1))).trans (hHeld.2.2.1)
                     have HS3_:=(hb.cell (World.block_lt_of_cell? _ _ (hHeld.2.2.2.1))).trans (hHeld.2.2.2.1)
                     have HS4_:=(hb.cell (World.block_lt_of_cell? _ _ (hHeld.2.2.2.2))).trans (hHeld.2.2.2.2)
                     replace HO_7:=bS HO_7 hb
                     replace HO_12:=bR HO_12 hb
                     replace HO_563:=bR HO_563 hb
                     replace HO_15:=oR HO_15 hg hb
                     replace HL570_1:=bR HL570_1 hb
                     replace HR570_1:=am (Kd.C_below D6 hb)
                     have BK574:=am (hbox)
                     have GW574:=ye HB hg
                     replace HB:=yH HB hb
                     have NB548_574:=yl BK548 hg
                     have NB574_548:=yg BK548 hg
                     replace BK548:=yb BK548 hb
                     have GE574:=GW574
                     clear hb hbox hg
                     refine hK.out _ _ ⟨yk BK548 0,yk BK548 1,HS2_,HS3_,HS4_⟩ (fun hHeld=>?_)
                     clear hK K
                     refine norm_ (nA 18) ?_
                     exact norm_ D83 (hCont (gb574) _ ⟨hHeld,D77,(yR HO_12),(yR HO_563),D78,(yS HO_7),(yB BK548),(yB BK574),GW574.out,GE574.out,NB548_574.out,NB574_548.out,(yW HB)⟩)
                    skip
                    refine box_step ?hg (N:=18) ?hd (cs:=#[.int .i64 0, .int .u8 0]) (t:=85) ?hr ?_;(case hd=>rfl);(case hg=>rfl);(case hr=>first|(go_simp;done)|(go_simp;rfl))
                    intro gb574 hg w55 hbox hb
                    have HS2_:=(hb.cell (World.block_lt_of_cell? _ _ (hHeld.2.2.1))).trans (hHeld.2.2.1)
                    have HS3_:=(hb.cell (World.block_lt_of_cell? _ _ (hHeld.2.2.2.1))).trans (hHeld.2.2.2.1)
                    have HS4_:=(hb.cell (World.block_lt_of_cell? _ _ (hHeld.2.2.2.2))).trans (hHeld.2.2.2.2)
                    replace HO_7:=bS HO_7 hb
                    replace HO_12:=bR HO_12 hb
                    replace HO_563:=bR HO_563 hb
                    replace HO_15:=oR HO_15 hg hb
                    replace HL570_1:=bR HL570_1 hb
                    replace HR570_1:=am (Kd.C_below D6 hb)
                    have BK574:=am (hbox)
                    have GW574:=ye HB hg
                    replace HB:=yH HB hb
                    have NB548_574:=yl BK548 hg
                    have NB574_548:=yg BK548 hg
                    replace BK548:=yb BK548 hb
                    have GE574:=GW574
                    clear hb hbox hg
                    refine hK.out _ _ ⟨yk BK548 0,yk BK548 1,HS2_,HS3_,HS4_⟩ (fun hHeld=>?_)
                    clear hK K
                    refine norm_ (nA 18) ?_
                    refine one_ (i:=9) (N:=some 100) #[Y,Y,Y,Y,Y,Y,Y,Y,Y,Y,Z,Z,Z,Y,Z,Z] rfl rfl (one_of HT_.out D2) D5 (fun K hK=>?_)
                    refine goes_ Try.func54 D2 rfl #[.agg #[.int .i64 t543, .int .i64 t544], .agg #[.int .i64 ((rd_T76 t549 (rd x12_1 (rd y564 x86_2))).f0), .slice A570_1 ((rd_T76 t549 (rd x12_1 (rd y564 x86_2))).f1).length c570_1], .int .i64 (Int.tmod t557 t543)] D16 rfl rfl D8 ?_
                    with_reducible refine (impl_HelpFor.calls k2 t543 t544 ((rd_T76 t549 (rd x12_1 (rd y564 x86_2))).f0) _ _ ((rd_T76 t549 (rd x12_1 (rd y564 x86_2))).f1) (Int.tmod t557 t543) t571 t572 true _ ?side1 ?side2 A49.out).mono ?_
                    (case side1=>repeat (first|exact D6|(with_reducible refine Kd.C_alloc ?_ _)|(with_reducible refine Kd.C_drewN ?_ _)|(with_reducible refine Kd.C_drew ?_)))
                    (case side2=>exact HC570_1.out)
                    rintro e w56 ⟨rfl,hb⟩
                    have HS2_:=(hb.cell (World.block_lt_of_cell? _ _ (hHeld.2.2.1))).trans (hHeld.2.2.1)
                    have HS3_:=(hb.cell (World.block_lt_of_cell? _ _ (hHeld.2.2.2.1))).trans (hHeld.2.2.2.1)
                    have HS4_:=(hb.cell (World.block_lt_of_cell? _ _ (hHeld.2.2.2.2))).trans (hHeld.2.2.2.2)
                    refine ⟨_,rfl,?_⟩
                    replace HO_7:=bS HO_7 hb
                    replace HO_12:=bR HO_12 hb
                    replace HO_563:=bR HO_563 hb
                    replace HO_15:=bR HO_15 hb
                    replace HL570_1:=bR HL570_1 hb
                    replace BK548:=yb BK548 hb
                    replace HR570_1:=am (Kd.C_below D6 hb)
                    replace BK574:=yb BK574 hb
                    replace HB:=yH HB hb
                    (try clear hb)
                    (try clear hb2)
                    (try clear hk)
                    (try clear hi)
                    refine hK.out _ _ ⟨yk BK548 0,yk BK548 1,HS2_,HS3_,HS4_⟩ (fun hHeld=>?_)
                    clear hK K
                    refine norm_ (nA 100) ?_
                    refine pure_ (i:=10) (N:=some 90) (v:=?_) (a':=?_) #[Y,Y,Y,Y,Y,Y,Y,Y,Y,Y,Y,Z,Z,Y,Z,Z] rfl rfl (any_of HT_.out D2) hh (Or.inl ⟨D16,?_⟩) ?_ ?_
                    rotate_left
                    ·intro w'
                     go_simp
                     with_reducible rfl
                    rotate_left
                    ·simp only [Act.put,q1,q2,q3,i64_w,i32_w]
                     rfl
                    refine pure_ (i:=11) (N:=some 101) (v:=?_) (a':=?_) #[Y,Y,Y,Y,Y,Y,Y,Y,Y,Y,Y,Y,Z,Y,Z,Z] rfl rfl (any_of HT_.out D2) hh (Or.inl ⟨D16,?_⟩) ?_ ?_
                    rotate_left
                    ·intro w'
                     go_simp
                     with_reducible rfl
                    rotate_left
                    ·simp only [Act.put,q1,q2,q3,i64_w,i32_w]
                     rfl
                    refine pure_ (i:=12) (N:=some 102) (v:=?_) (a':=?_) #[Y,Y,Y,Y,Y,Y,Y,Y,Y,Y,Y,Y,Y,Y,Z,Z] rfl rfl (any_of HT_.out D2) hh (Or.inl ⟨D16,?_⟩) ?_ ?_
                    rotate_left
                    ·intro w'
                     go_simp
                     with_reducible rfl
                    rotate_left
                    ·simp only [Act.put,q1,q2,q3,i64_w,i32_w]
                     rfl
                    exact norm_ D83 (hCont (gb574) _ ⟨hHeld,D77,(yR HO_12),(yR HO_563),D78,(yS HO_7),(yB BK548),(yB BK574),GW574.out,GE574.out,NB548_574.out,NB574_548.out,(yW HB)⟩)
                   rintro gb574 w57 ⟨hS_,h0_,h1_,hz_,h2_,h3_,h4_,h5_,h6_,h7_,h8_,h9_,h10_⟩
                   have n0_:Aside0 (Kd.R (Kd.int .u8) 5 w57 w.heap.size (fun k_=>some k_ ≠ (.slice (some ad570) t549.length co54:Value).ownBlock) (.slice A570_1 ((rd_T76 t549 (rd x12_1 (rd y564 x86_2))).f1).length c570_1) ((rd_T76 t549 (rd x12_1 (rd y564 x86_2))).f1)):=⟨h0_⟩
                   have n1_:Aside0 (Kd.R (Kd.int .i64) 3 w57 w.heap.size (fun _=>True) (.slice (some ad569) x12_1.length co38) x12_1):=⟨h1_⟩
                   have nz_:Aside0 (Kd.R (Kd.int .i64) 3 w57 w.heap.size (fun _=>True) (.slice (some ad568) t561.length co41) t561):=⟨hz_⟩
                   have n2_:Aside0 (Kd.R k85 85 w57 w.heap.size (fun k_=>k_ ≠ gb574) u15 x15_2):=⟨h2_⟩
                   have n3_:Aside0 (Kd.S k76 76 w57 w.heap.size (fun _=>True) (.slice (some ad570) t549.length co54) t549):=⟨h3_⟩
                   have n4_:Aside0 (w57.heap[gb548]? = some (.cells #[.int .i64 t543, .int .i64 t544] 30 (0,0))):=⟨h4_⟩
                   have n5_:Aside0 (w57.heap[gb574]? = some (.cells #[.int .i64 0, .int .u8 0] 85 (0,0))):=⟨h5_⟩
                   have n6_:Aside0 (w.heap.size≤gb574):=⟨h6_⟩
                   have n7_:Aside0 (w.heap.size≤gb574):=⟨h7_⟩
                   have n8_:Aside0 (gb548 ≠ gb574):=⟨h8_⟩
                   have n9_:Aside0 (gb574 ≠ gb548):=⟨h9_⟩
                   have n10_:Aside0 (Below w.heap.size w w57):=⟨h10_⟩
                   clear HO_7
                   clear HO_12
                   clear HO_563
                   clear HO_15
                   clear BK548
                   clear HB
                   clear h0_ h1_ hz_ h2_ h3_ h4_ h5_ h6_ h7_ h8_ h9_ h10_
                   have HL570_1:=n0_
                   have HO_12:=n1_
                   have HO_563:=nz_
                   have HO_15:=n2_
                   have HO_7:=n3_
                   have BK548:=n4_
                   have BK574:=n5_
                   have GW574:=n6_
                   have GE574:=n7_
                   have NB548_574:=n8_
                   have NB574_548:=n9_
                   have HB:=n10_
                   clear n0_ n1_ nz_ n2_ n3_ n4_ n5_ n6_ n7_ n8_ n9_ n10_
                   have hHeld:w57.cell? ⟨gb548,0,none⟩=some (.int .i64 t543)∧w57.cell? ⟨gb548,1,none⟩=some (.int .i64 t544)∧w57.cell? (ad569.add ((rd y564 x86_2)).toNat)=some (.int .i64 (rd x12_1 (rd y564 x86_2)))∧w57.cell? (ad570.add (((rd x12_1 (rd y564 x86_2))).toNat*2))=some (.int .i64 ((rd_T76 t549 (rd x12_1 (rd y564 x86_2))).f0))∧w57.cell? ⟨(ad570.add (((rd x12_1 (rd y564 x86_2))).toNat*2)).block,(ad570.add (((rd x12_1 (rd y564 x86_2))).toNat*2)).off+1,none⟩=some (.slice A570_1 ((rd_T76 t549 (rd x12_1 (rd y564 x86_2))).f1).length c570_1):=hS_
                   refine norm_ (a':=?_) ?_ ?_
                   rotate_left
                   ·simp only [putAll,Act.put,q1,q2,q3]
                    rfl
                   refine one_ (i:=14) (N:=none) #[Y,Y,Y,Y,Y,Y,Y,Y,Y,Y,Y,Y,Y,Y,Y,Z] rfl rfl (one_of HT_.out D2) D5 (fun K hK=>?_)
                   have hs58:w57.cell? ⟨gb574,0,none⟩=some (.int .i64 0):=(blk_cell BK574.out 0).trans rfl
                   have hfs58:=blk_frozen BK574.out 0
                   have hns58_0:=NB548_574.out
                   have hms58_0:=NB574_548.out
                   have hs59:w57.cell? ⟨gb574,1,none⟩=some (.int .u8 0):=(blk_cell BK574.out 1).trans rfl
                   have hfs59:=blk_frozen BK574.out 1
                   have hns59_0:=NB548_574.out
                   have hms59_0:=NB574_548.out
                   refine skip_ (w1:=?_) D16 rfl ?_ ?_
                   rotate_left
                   ·go_simp
                    rfl
                   refine hK.out _ _ ⟨((cell_far (p:=⟨gb574,_,none⟩) NB548_574.out _).trans (((cell_far (p:=⟨gb574,_,none⟩) NB548_574.out _).trans (hHeld.1)))),((cell_far (p:=⟨gb574,_,none⟩) NB548_574.out _).trans (((cell_far (p:=⟨gb574,_,none⟩) NB548_574.out _).trans (hHeld.2.1)))),((cell_far (p:=⟨gb574,_,none⟩) D20 _).trans (((cell_far (p:=⟨gb574,_,none⟩) D20 _).trans (hHeld.2.2.1)))),((cell_far (p:=⟨gb574,_,none⟩) D11 _).trans (((cell_far (p:=⟨gb574,_,none⟩) D11 _).trans (hHeld.2.2.2.1)))),((cell_far (p:=⟨gb574,_,none⟩) D11 _).trans (((cell_far (p:=⟨gb574,_,none⟩) D11 _).trans (hHeld.2.2.2.2))))⟩ (fun hHeld=>?_)
                   clear hK K
                   refine pure_ (i:=15) (N:=some 19) (v:=?_) (a':=?_) #[Y,Y,Y,Y,Y,Y,Y,Y,Y,Y,Y,Y,Y,Y,Y,Y] rfl rfl (any_of HT_.out D2) hh (Or.inl ⟨D16,?_⟩) ?_ ?_
                   rotate_left
                   ·intro w'
                    go_simp
                    with_reducible rfl
                   rotate_left
                   ·simp only [Act.put,q1,q2,q3,i64_w,i32_w]
                    rfl
                   refine done_ (done_of HT_.out D2) ?_
                   try go_wp2
                   generalize hw_:((w57.setCell ⟨gb574,0,none⟩ (.int .i64 t571)).setCell ⟨gb574,1,none⟩ (.int .u8 t572))=w60
                   replace HO_7:Aside0 (Kd.S k76 76 w60 w.heap.size (fun _=>True) (.slice (some ad570) t549.length co54) t549):=⟨D61⟩
                   replace HO_12:Aside0 (Kd.R (Kd.int .i64) 3 w60 w.heap.size (fun _=>True) (.slice (some ad569) x12_1.length co38) x12_1):=⟨D60⟩
                   replace HO_563:Aside0 (Kd.R (Kd.int .i64) 3 w60 w.heap.size (fun _=>True) (.slice (some ad568) t561.length co41) t561):=⟨D59⟩
                   replace HO_15:Aside0 (Kd.R k85 85 w60 w.heap.size (fun k_=>k_ ≠ gb574) u15 x15_2):=⟨D51⟩
                   replace HL570_1:Aside0 (Kd.R (Kd.int .u8) 5 w60 w.heap.size (fun k_=>some k_ ≠ (.slice (some ad570) t549.length co54:Value).ownBlock) (.slice A570_1 ((rd_T76 t549 (rd x12_1 (rd y564 x86_2))).f1).length c570_1) ((rd_T76 t549 (rd x12_1 (rd y564 x86_2))).f1)):=⟨D62⟩
                   replace BK548:Aside0 (w60.heap[gb548]? = some (.cells #[.int .i64 t543, .int .i64 t544] 30 (0,0))):=⟨D118⟩
                   replace BK574:Aside0 (w60.heap[gb574]? = some (.cells #[.int .i64 t571, .int .u8 t572] 85 (0,0))):=⟨D72⟩
                   replace HB:Aside0 (Below w.heap.size w w60):=⟨D69⟩
                   clear hw_
                   replace HO_7:=am (Kd.S_drew HO_7.out)
                   replace HO_12:=am (Kd.R_drew HO_12.out)
                   replace HO_563:=am (Kd.R_drew HO_563.out)
                   replace HO_15:=am (Kd.R_drew HO_15.out)
                   replace HL570_1:=am (Kd.R_drew HL570_1.out)
                   replace BK548:=am (qd BK548.out)
                   replace BK574:=am (qd BK574.out)
                   replace HB:=am (pd HB.out)
                   have p575:0≤((rd y564 x86_2):Int):=od D0
                   have q575:(rd y564 x86_2) < (x12_1.length:Int):=od D0
                   obtain ⟨ad575,e575,hx575_0⟩:=Kd.at_int (Kd.R_reads' HO_12.out).2.2 (rd y564 x86_2) p575 q575
                   obtain rfl:ad569=ad575:=(by injection e575)
                   replace p575:=eq_true p575
                   replace q575:=eq_true q575
                   refine rS (n:=11) (S:=fun w'=>w'.cell? ⟨gb574,0,none⟩=some (.int .i64 t571)∧w'.cell? ⟨gb574,1,none⟩=some (.int .u8 t572)∧w'.cell? (ad569.add ((rd y564 x86_2)).toNat)=some (.int .i64 (rd x12_1 (rd y564 x86_2)))) (ds:=[]) [(0,103),(1,104),(2,105),(3,106),(5,108),(6,109),(7,110),(4,107),(8,111),(9,112),(10,113)] D2 rfl laws_FnRegenerated.tab22 laws_FnRegenerated.bits22 ⟨yk BK574 0,yk BK574 1,hx575_0⟩ (fun hHeld HT_ HW_=>?_)
                   generalize w60.drew=w61 at HO_7 HO_12 HO_563 HO_15 HL570_1 BK548 BK574 HB hx575_0 hHeld ⊢
                   refine rR ?_
                   refine rD HT_ D2 ?_
                   have hnb62:=NB574_548.out
                   have hnc62:=NB548_574.out
                   obtain ⟨hcz63_0,hcz63_1,hfz63_0,hfz63_1⟩:=yk2 BK574
                   try go_wp2_with (first|((with_reducible refine gate_builtin (b:=.append) (xs:=#[.tmp 114, .tmp 116]) rfl ?_);at_builtin;refine Kd.R_append k85 (w0:=w) w.heap.size rfl (.tmp 114) (.tmp 116) 83 85 (.agg #[(.int .i64 0),(.int .u8 0)]) 16 rfl Try.underlying83 info85 rfl D5 D13 u15 x15_2 (⟨t571,t572⟩:S85) [.int .i64 t571, .int .u8 t572] (fun k_=>k_ ≠ gb574) (fun _=>False) rfl rfl (by exact k85_mkM _ _ _ (⟨t571,t572⟩:S85)) (fun _ hk=>hk.elim) (by exact (fun k_ hk=>yz BK574 k_ hk)) (by exact (yR HO_15)) D64 D47 (by have:=LMc52.out;omega) ?_;intro v577 w64 ho hb hg hat;rw [← Ny576.out] at ho;have n0_:=am (Kd.S_over' (yS HO_7) (Kd.R_typed (yR HO_15)) D5 hg);have n1_:=am (Kd.R_over' (yR HO_12) (Kd.R_typed (yR HO_15)) D5 hg);have nz_:=am (Kd.R_over' (yR HO_563) (Kd.R_typed (yR HO_15)) D5 hg);have n2_:=am (blk_grown (g:=gb548) (o:=.cells #[.int .i64 t543, .int .i64 t544] 30 (0,0)) (yB BK548) hg (Kd.R_ne HO_15.out BK548.out D5));have n3_:=am (Kd.R_over' (yR HL570_1) (Kd.R_typed (yR HO_15)) D5 hg);have n4_:=am (blk_grown (g:=gb574) (o:=.cells #[.int .i64 t571, .int .u8 t572] 85 (0,0)) (yB BK574) hg (Kd.R_away HO_15.out (fun _ hk=>hk)));have n5_:=am (hb);have n6_:=am (ho);clear HO_7 HO_12 HO_563 BK548 HL570_1 BK574 HB HO_15;have HO_7:=n0_;have HO_12:=n1_;have HO_563:=nz_;have BK548:=n2_;have HL570_1:=n3_;have BK574:=n4_;have HB:=n5_;have HO578:=n6_;clear n0_ n1_ nz_ n2_ n3_ n4_ n5_ n6_ ho hb hg hat))
                   go_roundg k2
                   case measure=>have:=HK1.out;have:=HK2.out;omega
                   case rel=>exact ⟨(y576),(wrap64 (x86_2+1)),D1,H',⟨D93⟩,⟨yS HO_7⟩,⟨yR HO_12⟩,⟨yR HO_563⟩,⟨by refine sR ?_;exact Kd.R_mono HO578.out (fun _ hk=>trivial)⟩,⟨yB BK548⟩,⟨yW HB⟩⟩
                  rw [if_neg c52] at H
                  exact absurd H D44
                 rw [if_neg c51] at H
                 have c51b0:(t571 == (rd x12_1 (rd y564 x86_2)))=false:=beq_eq_false_iff_ne.mpr c51
                 have c51b1:(t571 != (rd x12_1 (rd y564 x86_2)))=true:=bne_iff_ne.mpr c51
                 obtain rfl:=Option.some.inj H
                 have p568:0≤(x86_2:Int):=od D0
                 have q568:x86_2 < (y564.length:Int):=od D0
                 have hz_:=Kd.C_take (m:=((ji34):Int).toNat) (Kd.R_reads' HO_563.out).2.2 KL40.out
                 rw [← Ny564.out] at hz_
                 obtain ⟨ad568,e568,hx568_0⟩:=Kd.at_int hz_ x86_2 p568 q568
                 clear hz_
                 cases e568
                 replace p568:=eq_true p568
                 replace q568:=eq_true q568
                 try go_wp2
                 replace HO_7:=am (Kd.S_drew HO_7.out)
                 replace HO_12:=am (Kd.R_drew HO_12.out)
                 replace HO_563:=am (Kd.R_drew HO_563.out)
                 replace HO_15:=am (Kd.R_drew HO_15.out)
                 replace BK548:=am (qd BK548.out)
                 replace HB:=am (pd HB.out)
                 have p569:0≤((rd y564 x86_2):Int):=od D0
                 have q569:(rd y564 x86_2) < (x12_1.length:Int):=od D0
                 obtain ⟨ad569,e569,hx569_0⟩:=Kd.at_int (Kd.R_reads' HO_12.out).2.2 (rd y564 x86_2) p569 q569
                 cases e569
                 replace p569:=eq_true p569
                 replace q569:=eq_true q569
                 obtain ⟨Ao66,co66,eo66⟩:=Kd.S_slice HO_7.out
                 (first|subst eo66|(injection eo66 with f1_ f2_ f3_;have f4_:=f1_.symm;have f5_:=f3_.symm;clear f1_ f2_ f3_;subst f4_;subst f5_))
                 have p570:0≤((rd x12_1 (rd y564 x86_2)):Int):=od D0
                 have q570:(rd x12_1 (rd y564 x86_2)) < (t549.length:Int):=od D0
                 obtain ⟨ad570,A570_1,c570_1,e570,hx570_0,hx570_1,hl570_1,hi570_1⟩:=at_T76 (Kd.S_reads' HO_7.out).2.2 (rd x12_1 (rd y564 x86_2)) p570 q570
                 cases e570
                 obtain ⟨ce570,hce570,hMe570,hcc570⟩:=Kd.S_get HO_7.out z76 (rd x12_1 (rd y564 x86_2)) p570 D116
                 obtain ⟨ve570_1,rfl,ge570_1⟩:=k76_openM hMe570
                 have hv570_1:=hcc570 1 _ rfl
                 rw [add_field _ _ 1 D13] at hv570_1
                 replace hv570_1:=Option.some.inj (hv570_1.symm.trans hx570_1)
                 rw [hv570_1] at ge570_1
                 have HL570_1:=am (show Kd.R (Kd.int .u8) 5 _ _ _ _ ((rd_T76 t549 (rd x12_1 (rd y564 x86_2))).f1) from ge570_1)
                 clear hv570_1 ge570_1
                 clear hcc570 hce570
                 have HR570_1:=am hi570_1
                 have HC570_1:=am hl570_1
                 clear hi570_1 hl570_1
                 replace p570:=eq_true p570
                 replace q570:=eq_true q570
                 refine start_ (n:=16) (S:=fun w'=>w'.cell? ⟨gb548,0,none⟩=some (.int .i64 t543)∧w'.cell? ⟨gb548,1,none⟩=some (.int .i64 t544)∧w'.cell? (ad569.add ((rd y564 x86_2)).toNat)=some (.int .i64 (rd x12_1 (rd y564 x86_2)))∧w'.cell? (ad570.add (((rd x12_1 (rd y564 x86_2))).toNat*2))=some (.int .i64 ((rd_T76 t549 (rd x12_1 (rd y564 x86_2))).f0))∧w'.cell? ⟨(ad570.add (((rd x12_1 (rd y564 x86_2))).toNat*2)).block,(ad570.add (((rd x12_1 (rd y564 x86_2))).toNat*2)).off+1,none⟩=some (.slice A570_1 ((rd_T76 t549 (rd x12_1 (rd y564 x86_2))).f1).length c570_1)) (ds:=[]) #[Z,Z,Z,Z,Z,Z,Z,Z,Z,Z,Z,Z,Z,Z,Z,Z] D2 rfl rfl ⟨yk BK548 0,yk BK548 1,hx569_0,hx570_0,hx570_1⟩ (fun hHeld=>?_);refine with_tabW laws_FnRegenerated.tab21 laws_FnRegenerated.bits21 (fun HT_ HW_=>?_)
                 generalize wr.drew=w65 at HO_7 HO_12 HO_563 HO_15 BK548 HB HL570_1 HR570_1 hx569_0 hx570_0 hx570_1 hHeld ⊢
                 refine pure_ (i:=1) (N:=some 92) (v:=?_) (a':=?_) #[Z,Y,Z,Z,Z,Z,Z,Z,Z,Z,Z,Z,Z,Z,Z,Z] rfl rfl (any_of HT_.out D2) hh (Or.inl ⟨D16,?_⟩) ?_ ?_
                 rotate_left
                 ·intro w'
                  go_simp
                  with_reducible rfl
                 rotate_left
                 ·simp only [Act.put,q1,q2,q3,i64_w,i32_w]
                  rfl
                 refine pure_ (i:=2) (N:=some 93) (v:=?_) (a':=?_) #[Z,Y,Y,Z,Z,Z,Z,Z,Z,Z,Z,Z,Z,Z,Z,Z] rfl rfl (any_of HT_.out D2) hh (Or.inl ⟨D16,?_⟩) ?_ ?_
                 rotate_left
                 ·intro w'
                  go_simp
                  with_reducible rfl
                 rotate_left
                 ·simp only [Act.put,q1,q2,q3,i64_w,i32_w]
                  rfl
                 refine pure_ (i:=3) (N:=some 94) (v:=?_) (a':=?_) #[Z,Y,Y,Y,Z,Z,Z,Z,Z,Z,Z,Z,Z,Z,Z,Z] rfl rfl (any_of HT_.out D2) hh (Or.inl ⟨D16,?_⟩) ?_ ?_
                 rotate_left
                 ·intro w'
                  go_simp
                  with_reducible rfl
                 rotate_left
                 ·simp only [Act.put,q1,q2,q3,i64_w,i32_w]
                  rfl
                 refine pure_ (i:=4) (N:=some 95) (v:=?_) (a':=?_) #[Z,Y,Y,Y,Y,Z,Z,Z,Z,Z,Z,Z,Z,Z,Z,Z] rfl rfl (any_of HT_.out D2) hh (Or.inl ⟨D16,?_⟩) ?_ ?_
                 rotate_left
                 ·intro w'
                  go_simp
                  with_reducible rfl
                 rotate_left
                 ·simp only [Act.put,q1,q2,q3,i64_w,i32_w]
                  rfl
                 refine pure_ (i:=8) (N:=some 99) (v:=?_) (a':=?_) #[Z,Y,Y,Y,Y,Z,Z,Z,Y,Z,Z,Z,Z,Z,Z,Z] rfl rfl (any_of HT_.out D2) hh (Or.inl ⟨D16,?_⟩) ?_ ?_
                 rotate_left
                 ·intro w'
                  go_simp
                  with_reducible rfl
                 rotate_left
                 ·simp only [Act.put,q1,q2,q3,i64_w,i32_w]
                  rfl
                 refine take_ (i:=0) (N:=some 91) (v:=?_) (a':=?_) #[Y,Y,Y,Y,Y,Z,Z,Z,Y,Z,Z,Z,Z,Z,Z,Z] rfl rfl (take_ofW HT_.out HW_.out D2) hh (Or.inl ⟨D16,?_⟩) hHeld ?_ ?_
                 rotate_left
                 ·rintro w' ⟨s0,s1,s2,s3,s4⟩
                  go_simp
                  with_reducible rfl
                 rotate_left
                 ·simp only [Act.put,q1,q2,q3,i64_w,i32_w]
                  rfl
                 refine take_ (i:=5) (N:=some 96) (v:=?_) (a':=?_) #[Y,Y,Y,Y,Y,Y,Z,Z,Y,Z,Z,Z,Z,Z,Z,Z] rfl rfl (take_ofW HT_.out HW_.out D2) hh (Or.inl ⟨D16,?_⟩) hHeld ?_ ?_
                 rotate_left
                 ·rintro w' ⟨s0,s1,s2,s3,s4⟩
                  go_simp
                  with_reducible rfl
                 rotate_left
                 ·simp only [Act.put,q1,q2,q3,i64_w,i32_w]
                  rfl
                 refine pure_ (i:=6) (N:=some 97) (v:=?_) (a':=?_) #[Y,Y,Y,Y,Y,Y,Y,Z,Y,Z,Z,Z,Z,Z,Z,Z] rfl rfl (any_of HT_.out D2) hh (Or.inl ⟨D16,?_⟩) ?_ ?_
                 rotate_left
                 ·intro w'
                  go_simp
                  with_reducible rfl
                 rotate_left
                 ·simp only [Act.put,q1,q2,q3,i64_w,i32_w]
                  rfl
                 refine take_ (i:=7) (N:=some 98) (v:=?_) (a':=?_) #[Y,Y,Y,Y,Y,Y,Y,Y,Y,Z,Z,Z,Z,Z,Z,Z] rfl rfl (take_ofW HT_.out HW_.out D2) hh (Or.inl ⟨D16,?_⟩) hHeld ?_ ?_
                 rotate_left
                 ·rintro w' ⟨s0,s1,s2,s3,s4⟩
                  go_simp
                  with_reducible rfl
                 rotate_left
                 ·simp only [Act.put,q1,q2,q3,i64_w,i32_w]
                  rfl
                 refine join_ (σ:=Nat) 2 #[Y,Y,Y,Y,Y,Y,Y,Y,Y,Y,Y,Y,Y,Y,Z,Z] (fun s_=>[(100, .tuple #[.agg #[.int .i64 t571, .int .u8 t572], .bool true]),(18, .pointer (some ⟨s_,0,none⟩)),(90, .tuple #[.agg #[.int .i64 t571, .int .u8 t572], .bool true]),(101, .agg #[.int .i64 t571, .int .u8 t572]),(102, .bool true)]) (fun s_ w'=>(w'.cell? ⟨gb548,0,none⟩=some (.int .i64 t543)∧w'.cell? ⟨gb548,1,none⟩=some (.int .i64 t544)∧w'.cell? (ad569.add ((rd y564 x86_2)).toNat)=some (.int .i64 (rd x12_1 (rd y564 x86_2)))∧w'.cell? (ad570.add (((rd x12_1 (rd y564 x86_2))).toNat*2))=some (.int .i64 ((rd_T76 t549 (rd x12_1 (rd y564 x86_2))).f0))∧w'.cell? ⟨(ad570.add (((rd x12_1 (rd y564 x86_2))).toNat*2)).block,(ad570.add (((rd x12_1 (rd y564 x86_2))).toNat*2)).off+1,none⟩=some (.slice A570_1 ((rd_T76 t549 (rd x12_1 (rd y564 x86_2))).f1).length c570_1))∧(Kd.R (Kd.int .u8) 5 w' w.heap.size (fun k_=>some k_ ≠ (.slice (some ad570) t549.length co66:Value).ownBlock) (.slice A570_1 ((rd_T76 t549 (rd x12_1 (rd y564 x86_2))).f1).length c570_1) ((rd_T76 t549 (rd x12_1 (rd y564 x86_2))).f1))∧(Kd.R (Kd.int .i64) 3 w' w.heap.size (fun _=>True) (.slice (some ad569) x12_1.length co38) x12_1)∧(Kd.R (Kd.int .i64) 3 w' w.heap.size (fun _=>True) (.slice (some ad568) t561.length co41) t561)∧(Kd.R k85 85 w' w.heap.size (fun k_=>k_ ≠ s_) u15 x15_2)∧(Kd.S k76 76 w' w.heap.size (fun _=>True) (.slice (some ad570) t549.length co66) t549)∧(w'.heap[gb548]? = some (.cells #[.int .i64 t543, .int .i64 t544] 30 (0,0)))∧(w'.heap[s_]? = some (.cells #[.int .i64 0, .int .u8 0] 85 (0,0)))∧(w.heap.size≤s_)∧(w.heap.size≤s_)∧(gb548 ≠ s_)∧(s_ ≠ gb548)∧(Below w.heap.size w w')) ?_ ?_
                 rotate_left
                 ·intro hCont
                  refine two_ (i:=9) (j:=13) (Ni:=some 100) (Nj:=some 18) #[Y,Y,Y,Y,Y,Y,Y,Y,Y,Y,Z,Z,Z,Z,Z,Z] #[Y,Y,Y,Y,Y,Y,Y,Y,Y,Z,Z,Z,Z,Y,Z,Z] rfl rfl rfl rfl (two_of HT_.out D2) D5 D5 (fun K hK=>?_) (fun K hK=>?_)
                  ·skip
                   refine goes_ Try.func54 D2 rfl #[.agg #[.int .i64 t543, .int .i64 t544], .agg #[.int .i64 ((rd_T76 t549 (rd x12_1 (rd y564 x86_2))).f0), .slice A570_1 ((rd_T76 t549 (rd x12_1 (rd y564 x86_2))).f1).length c570_1], .int .i64 (Int.tmod t557 t543)] D16 rfl rfl D8 ?_
                   with_reducible refine (impl_HelpFor.calls k2 t543 t544 ((rd_T76 t549 (rd x12_1 (rd y564 x86_2))).f0) _ _ ((rd_T76 t549 (rd x12_1 (rd y564 x86_2))).f1) (Int.tmod t557 t543) t571 t572 true _ ?side1 ?side2 A49.out).mono ?_
                   (case side1=>repeat (first|exact D6|(with_reducible refine Kd.C_alloc ?_ _)|(with_reducible refine Kd.C_drewN ?_ _)|(with_reducible refine Kd.C_drew ?_)))
                   (case side2=>exact HC570_1.out)
                   rintro e w67 ⟨rfl,hb⟩
                   have HS2_:=(hb.cell (World.block_lt_of_cell? _ _ (hHeld.2.2.1))).trans (hHeld.2.2.1)
                   have HS3_:=(hb.cell (World.block_lt_of_cell? _ _ (hHeld.2.2.2.1))).trans (hHeld.2.2.2.1)
                   have HS4_:=(hb.cell (World.block_lt_of_cell? _ _ (hHeld.2.2.2.2))).trans (hHeld.2.2.2.2)
                   refine ⟨_,rfl,?_⟩
                   replace HO_7:=bS HO_7 hb
                   replace HO_12:=bR HO_12 hb
                   replace HO_563:=bR HO_563 hb
                   replace HO_15:=bR HO_15 hb
                   replace HL570_1:=bR HL570_1 hb
                   replace BK548:=yb BK548 hb
                   replace HR570_1:=am (Kd.C_below D6 hb)
                   replace HB:=yH HB hb
                   (try clear hb)
                   (try clear hb2)
                   (try clear hk)
                   (try clear hi)
                   refine hK.out _ _ ⟨yk BK548 0,yk BK548 1,HS2_,HS3_,HS4_⟩ (fun hHeld=>?_)
                   clear hK K
                   refine norm_ (nA 100) ?_
                   refine pure_ (i:=10) (N:=some 90) (v:=?_) (a':=?_) #[Y,Y,Y,Y,Y,Y,Y,Y,Y,Y,Y,Z,Z,Z,Z,Z] rfl rfl (any_of HT_.out D2) hh (Or.inl ⟨D16,?_⟩) ?_ ?_
                   rotate_left
                   ·intro w'
                    go_simp
                    with_reducible rfl
                   rotate_left
                   ·simp only [Act.put,q1,q2,q3,i64_w,i32_w]
                    rfl
                   refine pure_ (i:=11) (N:=some 101) (v:=?_) (a':=?_) #[Y,Y,Y,Y,Y,Y,Y,Y,Y,Y,Y,Y,Z,Z,Z,Z] rfl rfl (any_of HT_.out D2) hh (Or.inl ⟨D16,?_⟩) ?_ ?_
                   rotate_left
                   ·intro w'
                    go_simp
                    with_reducible rfl
                   rotate_left
                   ·simp only [Act.put,q1,q2,q3,i64_w,i32_w]
                    rfl
                   refine pure_ (i:=12) (N:=some 102) (v:=?_) (a':=?_) #[Y,Y,Y,Y,Y,Y,Y,Y,Y,Y,Y,Y,Y,Z,Z,Z] rfl rfl (any_of HT_.out D2) hh (Or.inl ⟨D16,?_⟩) ?_ ?_
                   rotate_left
                   ·intro w'
                    go_simp
                    with_reducible rfl
                   rotate_left
                   ·simp only [Act.put,q1,q2,q3,i64_w,i32_w]
                    rfl
                   refine one_ (i:=13) (N:=some 18) #[Y,Y,Y,Y,Y,Y,Y,Y,Y,Y,Y,Y,Y,Y,Z,Z] rfl rfl (one_of HT_.out D2) D5 (fun K hK=>?_)
                   refine box_step ?hg (N:=18) ?hd (cs:=#[.int .i64 0, .int .u8 0]) (t:=85) ?hr ?_;(case hd=>rfl);(case hg=>rfl);(case hr=>first|(go_simp;done)|(go_simp;rfl))
                   intro gb574 hg w68 hbox hb
                   have HS2_:=(hb.cell (World.block_lt_of_cell? _ _ (hHeld.2.2.1))).trans (hHeld.2.2.1)
                   have HS3_:=(hb.cell (World.block_lt_of_cell? _ _ (hHeld.2.2.2.1))).trans (hHeld.2.2.2.1)
                   have HS4_:=(hb.cell (World.block_lt_of_cell? _ _ (hHeld.2.2.2.2))).trans (hHeld.2.2.2.2)
                   replace HO_7:=bS HO_7 hb
                   replace HO_12:=bR HO_12 hb
                   replace HO_563:=bR HO_563 hb
                   replace HO_15:=oR HO_15 hg hb
                   replace HL570_1:=bR HL570_1 hb
                   replace HR570_1:=am (Kd.C_below D6 hb)
                   have BK574:=am (hbox)
                   have GW574:=ye HB hg
                   replace HB:=yH HB hb
                   have NB548_574:=yl BK548 hg
                   have NB574_548:=yg BK548 hg
                   replace BK548:=yb BK548 hb
                   have GE574:=GW574
                   clear hb hbox hg
                   refine hK.out _ _ ⟨yk BK548 0,yk BK548 1,HS2_,HS3_,HS4_⟩ (fun hHeld=>?_)
                   clear hK K
                   refine norm_ (nA 18) ?_
                   exact norm_ D83 (hCont (gb574) _ ⟨hHeld,D77,(yR HO_12),(yR HO_563),D78,(yS HO_7),(yB BK548),(yB BK574),GW574.out,GE574.out,NB548_574.out,NB574_548.out,(yW HB)⟩)
                  skip
                  refine box_step ?hg (N:=18) ?hd (cs:=#[.int .i64 0, .int .u8 0]) (t:=85) ?hr ?_;(case hd=>rfl);(case hg=>rfl);(case hr=>first|(go_simp;done)|(go_simp;rfl))
                  intro gb574 hg w67 hbox hb
                  have HS2_:=(hb.cell (World.block_lt_of_cell? _ _ (hHeld.2.2.1))).trans (hHeld.2.2.1)
                  have HS3_:=(hb.cell (World.block_lt_of_cell? _ _ (hHeld.2.2.2.1))).trans (hHeld.2.2.2.1)
                  have HS4_:=(hb.cell (World.block_lt_of_cell? _ _ (hHeld.2.2.2.2))).trans (hHeld.2.2.2.2)
                  replace HO_7:=bS HO_7 hb
                  replace HO_12:=bR HO_12 hb
                  replace HO_563:=bR HO_563 hb
                  replace HO_15:=oR HO_15 hg hb
                  replace HL570_1:=bR HL570_1 hb
                  replace HR570_1:=am (Kd.C_below D6 hb)
                  have BK574:=am (hbox)
                  have GW574:=ye HB hg
                  replace HB:=yH HB hb
                  have NB548_574:=yl BK548 hg
                  have NB574_548:=yg BK548 hg
                  replace BK548:=yb BK548 hb
                  have GE574:=GW574
                  clear hb hbox hg
                  refine hK.out _ _ ⟨yk BK548 0,yk BK548 1,HS2_,HS3_,HS4_⟩ (fun hHeld=>?_)
                  clear hK K
                  refine norm_ (nA 18) ?_
                  refine one_ (i:=9) (N:=some 100) #[Y,Y,Y,Y,Y,Y,Y,Y,Y,Y,Z,Z,Z,Y,Z,Z] rfl rfl (one_of HT_.out D2) D5 (fun K hK=>?_)
                  refine goes_ Try.func54 D2 rfl #[.agg #[.int .i64 t543, .int .i64 t544], .agg #[.int .i64 ((rd_T76 t549 (rd x12_1 (rd y564 x86_2))).f0), .slice A570_1 ((rd_T76 t549 (rd x12_1 (rd y564 x86_2))).f1).length c570_1], .int .i64 (Int.tmod t557 t543)] D16 rfl rfl D8 ?_
                  with_reducible refine (impl_HelpFor.calls k2 t543 t544 ((rd_T76 t549 (rd x12_1 (rd y564 x86_2))).f0) _ _ ((rd_T76 t549 (rd x12_1 (rd y564 x86_2))).f1) (Int.tmod t557 t543) t571 t572 true _ ?side1 ?side2 A49.out).mono ?_
                  (case side1=>repeat (first|exact D6|(with_reducible refine Kd.C_alloc ?_ _)|(with_reducible refine Kd.C_drewN ?_ _)|(with_reducible refine Kd.C_drew ?_)))
                  (case side2=>exact HC570_1.out)
                  rintro e w68 ⟨rfl,hb⟩
                  have HS2_:=(hb.cell (World.block_lt_of_cell? _ _ (hHeld.2.2.1))).trans (hHeld.2.2.1)
                  have HS3_:=(hb.cell (World.block_lt_of_cell? _ _ (hHeld.2.2.2.1))).trans (hHeld.2.2.2.1)
                  have HS4_:=(hb.cell (World.block_lt_of_cell? _ _ (hHeld.2.2.2.2))).trans (hHeld.2.2.2.2)
                  refine ⟨_,rfl,?_⟩
                  replace HO_7:=bS HO_7 hb
                  replace HO_12:=bR HO_12 hb
                  replace HO_563:=bR HO_563 hb
                  replace HO_15:=bR HO_15 hb
                  replace HL570_1:=bR HL570_1 hb
                  replace BK548:=yb BK548 hb
                  replace HR570_1:=am (Kd.C_below D6 hb)
                  replace BK574:=yb BK574 hb
                  replace HB:=yH HB hb
                  (try clear hb)
                  (try clear hb2)
                  (try clear hk)
                  (try clear hi)
                  refine hK.out _ _ ⟨yk BK548 0,yk BK548 1,HS2_,HS3_,HS4_⟩ (fun hHeld=>?_)
                  clear hK K
                  refine norm_ (nA 100) ?_
                  refine pure_ (i:=10) (N:=some 90) (v:=?_) (a':=?_) #[Y,Y,Y,Y,Y,Y,Y,Y,Y,Y,Y,Z,Z,Y,Z,Z] rfl rfl (any_of HT_.out D2) hh (Or.inl ⟨D16,?_⟩) ?_ ?_
                  rotate_left
                  ·intro w'
                   go_simp
                   with_reducible rfl
                  rotate_left
                  ·simp only [Act.put,q1,q2,q3,i64_w,i32_w]
                   rfl
                  refine pure_ (i:=11) (N:=some 101) (v:=?_) (a':=?_) #[Y,Y,Y,Y,Y,Y,Y,Y,Y,Y,Y,Y,Z,Y,Z,Z] rfl rfl (any_of HT_.out D2) hh (Or.inl ⟨D16,?_⟩) ?_ ?_
                  rotate_left
                  ·intro w'
                   go_simp
                   with_reducible rfl
                  rotate_left
                  ·simp only [Act.put,q1,q2,q3,i64_w,i32_w]
                   rfl
                  refine pure_ (i:=12) (N:=some 102) (v:=?_) (a':=?_) #[Y,Y,Y,Y,Y,Y,Y,Y,Y,Y,Y,Y,Y,Y,Z,Z] rfl rfl (any_of HT_.out D2) hh (Or.inl ⟨D16,?_⟩) ?_ ?_
                  rotate_left
                  ·intro w'
                   go_simp
                   with_reducible rfl
                  rotate_left
                  ·simp only [Act.put,q1,q2,q3,i64_w,i32_w]
                   rfl
                  exact norm_ D83 (hCont (gb574) _ ⟨hHeld,D77,(yR HO_12),(yR HO_563),D78,(yS HO_7),(yB BK548),(yB BK574),GW574.out,GE574.out,NB548_574.out,NB574_548.out,(yW HB)⟩)
                 rintro gb574 w69 ⟨hS_,h0_,h1_,hz_,h2_,h3_,h4_,h5_,h6_,h7_,h8_,h9_,h10_⟩
                 have n0_:Aside0 (Kd.R (Kd.int .u8) 5 w69 w.heap.size (fun k_=>some k_ ≠ (.slice (some ad570) t549.length co66:Value).ownBlock) (.slice A570_1 ((rd_T76 t549 (rd x12_1 (rd y564 x86_2))).f1).length c570_1) ((rd_T76 t549 (rd x12_1 (rd y564 x86_2))).f1)):=⟨h0_⟩
                 have n1_:Aside0 (Kd.R (Kd.int .i64) 3 w69 w.heap.size (fun _=>True) (.slice (some ad569) x12_1.length co38) x12_1):=⟨h1_⟩
                 have nz_:Aside0 (Kd.R (Kd.int .i64) 3 w69 w.heap.size (fun _=>True) (.slice (some ad568) t561.length co41) t561):=⟨hz_⟩
                 have n2_:Aside0 (Kd.R k85 85 w69 w.heap.size (fun k_=>k_ ≠ gb574) u15 x15_2):=⟨h2_⟩
                 have n3_:Aside0 (Kd.S k76 76 w69 w.heap.size (fun _=>True) (.slice (some ad570) t549.length co66) t549):=⟨h3_⟩
                 have n4_:Aside0 (w69.heap[gb548]? = some (.cells #[.int .i64 t543, .int .i64 t544] 30 (0,0))):=⟨h4_⟩
                 have n5_:Aside0 (w69.heap[gb574]? = some (.cells #[.int .i64 0, .int .u8 0] 85 (0,0))):=⟨h5_⟩
                 have n6_:Aside0 (w.heap.size≤gb574):=⟨h6_⟩
                 have n7_:Aside0 (w.heap.size≤gb574):=⟨h7_⟩
                 have n8_:Aside0 (gb548 ≠ gb574):=⟨h8_⟩
                 have n9_:Aside0 (gb574 ≠ gb548):=⟨h9_⟩
                 have n10_:Aside0 (Below w.heap.size w w69):=⟨h10_⟩
                 clear HO_7
                 clear HO_12
                 clear HO_563
                 clear HO_15
                 clear BK548
                 clear HB
                 clear h0_ h1_ hz_ h2_ h3_ h4_ h5_ h6_ h7_ h8_ h9_ h10_
                 have HL570_1:=n0_
                 have HO_12:=n1_
                 have HO_563:=nz_
                 have HO_15:=n2_
                 have HO_7:=n3_
                 have BK548:=n4_
                 have BK574:=n5_
                 have GW574:=n6_
                 have GE574:=n7_
                 have NB548_574:=n8_
                 have NB574_548:=n9_
                 have HB:=n10_
                 clear n0_ n1_ nz_ n2_ n3_ n4_ n5_ n6_ n7_ n8_ n9_ n10_
                 have hHeld:w69.cell? ⟨gb548,0,none⟩=some (.int .i64 t543)∧w69.cell? ⟨gb548,1,none⟩=some (.int .i64 t544)∧w69.cell? (ad569.add ((rd y564 x86_2)).toNat)=some (.int .i64 (rd x12_1 (rd y564 x86_2)))∧w69.cell? (ad570.add (((rd x12_1 (rd y564 x86_2))).toNat*2))=some (.int .i64 ((rd_T76 t549 (rd x12_1 (rd y564 x86_2))).f0))∧w69.cell? ⟨(ad570.add (((rd x12_1 (rd y564 x86_2))).toNat*2)).block,(ad570.add (((rd x12_1 (rd y564 x86_2))).toNat*2)).off+1,none⟩=some (.slice A570_1 ((rd_T76 t549 (rd x12_1 (rd y564 x86_2))).f1).length c570_1):=hS_
                 refine norm_ (a':=?_) ?_ ?_
                 rotate_left
                 ·simp only [putAll,Act.put,q1,q2,q3]
                  rfl
                 refine one_ (i:=14) (N:=none) #[Y,Y,Y,Y,Y,Y,Y,Y,Y,Y,Y,Y,Y,Y,Y,Z] rfl rfl (one_of HT_.out D2) D5 (fun K hK=>?_)
                 have hs70:w69.cell? ⟨gb574,0,none⟩=some (.int .i64 0):=(blk_cell BK574.out 0).trans rfl
                 have hfs70:=blk_frozen BK574.out 0
                 have hns70_0:=NB548_574.out
                 have hms70_0:=NB574_548.out
                 have hs71:w69.cell? ⟨gb574,1,none⟩=some (.int .u8 0):=(blk_cell BK574.out 1).trans rfl
                 have hfs71:=blk_frozen BK574.out 1
                 have hns71_0:=NB548_574.out
                 have hms71_0:=NB574_548.out
                 refine skip_ (w1:=?_) D16 rfl ?_ ?_
                 rotate_left
                 ·go_simp
                  rfl
                 refine hK.out _ _ ⟨((cell_far (p:=⟨gb574,_,none⟩) NB548_574.out _).trans (((cell_far (p:=⟨gb574,_,none⟩) NB548_574.out _).trans (hHeld.1)))),((cell_far (p:=⟨gb574,_,none⟩) NB548_574.out _).trans (((cell_far (p:=⟨gb574,_,none⟩) NB548_574.out _).trans (hHeld.2.1)))),((cell_far (p:=⟨gb574,_,none⟩) D20 _).trans (((cell_far (p:=⟨gb574,_,none⟩) D20 _).trans (hHeld.2.2.1)))),((cell_far (p:=⟨gb574,_,none⟩) D11 _).trans (((cell_far (p:=⟨gb574,_,none⟩) D11 _).trans (hHeld.2.2.2.1)))),((cell_far (p:=⟨gb574,_,none⟩) D11 _).trans (((cell_far (p:=⟨gb574,_,none⟩) D11 _).trans (hHeld.2.2.2.2))))⟩ (fun hHeld=>?_)
                 clear hK K
                 refine pure_ (i:=15) (N:=some 19) (v:=?_) (a':=?_) #[Y,Y,Y,Y,Y,Y,Y,Y,Y,Y,Y,Y,Y,Y,Y,Y] rfl rfl (any_of HT_.out D2) hh (Or.inl ⟨D16,?_⟩) ?_ ?_
                 rotate_left
                 ·intro w'
                  go_simp
                  with_reducible rfl
                 rotate_left
                 ·simp only [Act.put,q1,q2,q3,i64_w,i32_w]
                  rfl
                 refine done_ (done_of HT_.out D2) ?_
                 try go_wp2
                 generalize hw_:((w69.setCell ⟨gb574,0,none⟩ (.int .i64 t571)).setCell ⟨gb574,1,none⟩ (.int .u8 t572))=w72
                 replace HO_7:Aside0 (Kd.S k76 76 w72 w.heap.size (fun _=>True) (.slice (some ad570) t549.length co66) t549):=⟨D61⟩
                 replace HO_12:Aside0 (Kd.R (Kd.int .i64) 3 w72 w.heap.size (fun _=>True) (.slice (some ad569) x12_1.length co38) x12_1):=⟨D60⟩
                 replace HO_563:Aside0 (Kd.R (Kd.int .i64) 3 w72 w.heap.size (fun _=>True) (.slice (some ad568) t561.length co41) t561):=⟨D59⟩
                 replace HO_15:Aside0 (Kd.R k85 85 w72 w.heap.size (fun k_=>k_ ≠ gb574) u15 x15_2):=⟨D51⟩
                 replace HL570_1:Aside0 (Kd.R (Kd.int .u8) 5 w72 w.heap.size (fun k_=>some k_ ≠ (.slice (some ad570) t549.length co66:Value).ownBlock) (.slice A570_1 ((rd_T76 t549 (rd x12_1 (rd y564 x86_2))).f1).length c570_1) ((rd_T76 t549 (rd x12_1 (rd y564 x86_2))).f1)):=⟨D62⟩
                 replace BK548:Aside0 (w72.heap[gb548]? = some (.cells #[.int .i64 t543, .int .i64 t544] 30 (0,0))):=⟨D118⟩
                 replace BK574:Aside0 (w72.heap[gb574]? = some (.cells #[.int .i64 t571, .int .u8 t572] 85 (0,0))):=⟨D72⟩
                 replace HB:Aside0 (Below w.heap.size w w72):=⟨D69⟩
                 clear hw_
                 replace HO_7:=am (Kd.S_drew HO_7.out)
                 replace HO_12:=am (Kd.R_drew HO_12.out)
                 replace HO_563:=am (Kd.R_drew HO_563.out)
                 replace HO_15:=am (Kd.R_drew HO_15.out)
                 replace HL570_1:=am (Kd.R_drew HL570_1.out)
                 replace BK548:=am (qd BK548.out)
                 replace BK574:=am (qd BK574.out)
                 replace HB:=am (pd HB.out)
                 have p575:0≤((rd y564 x86_2):Int):=od D0
                 have q575:(rd y564 x86_2) < (x12_1.length:Int):=od D0
                 obtain ⟨ad575,e575,hx575_0⟩:=Kd.at_int (Kd.R_reads' HO_12.out).2.2 (rd y564 x86_2) p575 q575
                 obtain rfl:ad569=ad575:=(by injection e575)
                 replace p575:=eq_true p575
                 replace q575:=eq_true q575
                 refine rS (n:=11) (S:=fun w'=>w'.cell? ⟨gb574,0,none⟩=some (.int .i64 t571)∧w'.cell? ⟨gb574,1,none⟩=some (.int .u8 t572)∧w'.cell? (ad569.add ((rd y564 x86_2)).toNat)=some (.int .i64 (rd x12_1 (rd y564 x86_2)))) (ds:=[]) [(0,103),(1,104),(2,105),(3,106),(5,108),(6,109),(7,110),(4,107),(8,111),(9,112),(10,113)] D2 rfl laws_FnRegenerated.tab22 laws_FnRegenerated.bits22 ⟨yk BK574 0,yk BK574 1,hx575_0⟩ (fun hHeld HT_ HW_=>?_)
                 generalize w72.drew=w73 at HO_7 HO_12 HO_563 HO_15 HL570_1 BK548 BK574 HB hx575_0 hHeld ⊢
                 refine rR ?_
                 refine rD HT_ D2 ?_
                 try go_wp2
                 go_ret
                 exact ⟨D76,yW HB⟩
                replace c50:=Bool.eq_false_iff.mpr c50
                subst c50
                replace H:=yn H
                obtain rfl:=Option.some.inj H
                have p568:0≤(x86_2:Int):=od D0
                have q568:x86_2 < (y564.length:Int):=od D0
                have hz_:=Kd.C_take (m:=((ji34):Int).toNat) (Kd.R_reads' HO_563.out).2.2 KL40.out
                rw [← Ny564.out] at hz_
                obtain ⟨ad568,e568,hx568_0⟩:=Kd.at_int hz_ x86_2 p568 q568
                clear hz_
                cases e568
                replace p568:=eq_true p568
                replace q568:=eq_true q568
                try go_wp2
                replace HO_7:=am (Kd.S_drew HO_7.out)
                replace HO_12:=am (Kd.R_drew HO_12.out)
                replace HO_563:=am (Kd.R_drew HO_563.out)
                replace HO_15:=am (Kd.R_drew HO_15.out)
                replace BK548:=am (qd BK548.out)
                replace HB:=am (pd HB.out)
                have p569:0≤((rd y564 x86_2):Int):=od D0
                have q569:(rd y564 x86_2) < (x12_1.length:Int):=od D0
                obtain ⟨ad569,e569,hx569_0⟩:=Kd.at_int (Kd.R_reads' HO_12.out).2.2 (rd y564 x86_2) p569 q569
                cases e569
                replace p569:=eq_true p569
                replace q569:=eq_true q569
                obtain ⟨Ao75,co75,eo75⟩:=Kd.S_slice HO_7.out
                (first|subst eo75|(injection eo75 with f1_ f2_ f3_;have f4_:=f1_.symm;have f5_:=f3_.symm;clear f1_ f2_ f3_;subst f4_;subst f5_))
                have p570:0≤((rd x12_1 (rd y564 x86_2)):Int):=od D0
                have q570:(rd x12_1 (rd y564 x86_2)) < (t549.length:Int):=od D0
                obtain ⟨ad570,A570_1,c570_1,e570,hx570_0,hx570_1,hl570_1,hi570_1⟩:=at_T76 (Kd.S_reads' HO_7.out).2.2 (rd x12_1 (rd y564 x86_2)) p570 q570
                cases e570
                obtain ⟨ce570,hce570,hMe570,hcc570⟩:=Kd.S_get HO_7.out z76 (rd x12_1 (rd y564 x86_2)) p570 D116
                obtain ⟨ve570_1,rfl,ge570_1⟩:=k76_openM hMe570
                have hv570_1:=hcc570 1 _ rfl
                rw [add_field _ _ 1 D13] at hv570_1
                replace hv570_1:=Option.some.inj (hv570_1.symm.trans hx570_1)
                rw [hv570_1] at ge570_1
                have HL570_1:=am (show Kd.R (Kd.int .u8) 5 _ _ _ _ ((rd_T76 t549 (rd x12_1 (rd y564 x86_2))).f1) from ge570_1)
                clear hv570_1 ge570_1
                clear hcc570 hce570
                have HR570_1:=am hi570_1
                have HC570_1:=am hl570_1
                clear hi570_1 hl570_1
                replace p570:=eq_true p570
                replace q570:=eq_true q570
                refine start_ (n:=16) (S:=fun w'=>w'.cell? ⟨gb548,0,none⟩=some (.int .i64 t543)∧w'.cell? ⟨gb548,1,none⟩=some (.int .i64 t544)∧w'.cell? (ad569.add ((rd y564 x86_2)).toNat)=some (.int .i64 (rd x12_1 (rd y564 x86_2)))∧w'.cell? (ad570.add (((rd x12_1 (rd y564 x86_2))).toNat*2))=some (.int .i64 ((rd_T76 t549 (rd x12_1 (rd y564 x86_2))).f0))∧w'.cell? ⟨(ad570.add (((rd x12_1 (rd y564 x86_2))).toNat*2)).block,(ad570.add (((rd x12_1 (rd y564 x86_2))).toNat*2)).off+1,none⟩=some (.slice A570_1 ((rd_T76 t549 (rd x12_1 (rd y564 x86_2))).f1).length c570_1)) (ds:=[]) #[Z,Z,Z,Z,Z,Z,Z,Z,Z,Z,Z,Z,Z,Z,Z,Z] D2 rfl rfl ⟨yk BK548 0,yk BK548 1,hx569_0,hx570_0,hx570_1⟩ (fun hHeld=>?_);refine with_tabW laws_FnRegenerated.tab21 laws_FnRegenerated.bits21 (fun HT_ HW_=>?_)
                generalize wr.drew=w74 at HO_7 HO_12 HO_563 HO_15 BK548 HB HL570_1 HR570_1 hx569_0 hx570_0 hx570_1 hHeld ⊢
                refine pure_ (i:=1) (N:=some 92) (v:=?_) (a':=?_) #[Z,Y,Z,Z,Z,Z,Z,Z,Z,Z,Z,Z,Z,Z,Z,Z] rfl rfl (any_of HT_.out D2) hh (Or.inl ⟨D16,?_⟩) ?_ ?_
                rotate_left
                ·intro w'
                 go_simp
                 with_reducible rfl
                rotate_left
                ·simp only [Act.put,q1,q2,q3,i64_w,i32_w]
                 rfl
                refine pure_ (i:=2) (N:=some 93) (v:=?_) (a':=?_) #[Z,Y,Y,Z,Z,Z,Z,Z,Z,Z,Z,Z,Z,Z,Z,Z] rfl rfl (any_of HT_.out D2) hh (Or.inl ⟨D16,?_⟩) ?_ ?_
                rotate_left
                ·intro w'
                 go_simp
                 with_reducible rfl
                rotate_left
                ·simp only [Act.put,q1,q2,q3,i64_w,i32_w]
                 rfl
                refine pure_ (i:=3) (N:=some 94) (v:=?_) (a':=?_) #[Z,Y,Y,Y,Z,Z,Z,Z,Z,Z,Z,Z,Z,Z,Z,Z] rfl rfl (any_of HT_.out D2) hh (Or.inl ⟨D16,?_⟩) ?_ ?_
                rotate_left
                ·intro w'
                 go_simp
                 with_reducible rfl
                rotate_left
                ·simp only [Act.put,q1,q2,q3,i64_w,i32_w]
                 rfl
                refine pure_ (i:=4) (N:=some 95) (v:=?_) (a':=?_) #[Z,Y,Y,Y,Y,Z,Z,Z,Z,Z,Z,Z,Z,Z,Z,Z] rfl rfl (any_of HT_.out D2) hh (Or.inl ⟨D16,?_⟩) ?_ ?_
                rotate_left
                ·intro w'
                 go_simp
                 with_reducible rfl
                rotate_left
                ·simp only [Act.put,q1,q2,q3,i64_w,i32_w]
                 rfl
                refine pure_ (i:=8) (N:=some 99) (v:=?_) (a':=?_) #[Z,Y,Y,Y,Y,Z,Z,Z,Y,Z,Z,Z,Z,Z,Z,Z] rfl rfl (any_of HT_.out D2) hh (Or.inl ⟨D16,?_⟩) ?_ ?_
                rotate_left
                ·intro w'
                 go_simp
                 with_reducible rfl
                rotate_left
                ·simp only [Act.put,q1,q2,q3,i64_w,i32_w]
                 rfl
                refine take_ (i:=0) (N:=some 91) (v:=?_) (a':=?_) #[Y,Y,Y,Y,Y,Z,Z,Z,Y,Z,Z,Z,Z,Z,Z,Z] rfl rfl (take_ofW HT_.out HW_.out D2) hh (Or.inl ⟨D16,?_⟩) hHeld ?_ ?_
                rotate_left
                ·rintro w' ⟨s0,s1,s2,s3,s4⟩
                 go_simp
                 with_reducible rfl
                rotate_left
                ·simp only [Act.put,q1,q2,q3,i64_w,i32_w]
                 rfl
                refine take_ (i:=5) (N:=some 96) (v:=?_) (a':=?_) #[Y,Y,Y,Y,Y,Y,Z,Z,Y,Z,Z,Z,Z,Z,Z,Z] rfl rfl (take_ofW HT_.out HW_.out D2) hh (Or.inl ⟨D16,?_⟩) hHeld ?_ ?_
                rotate_left
                ·rintro w' ⟨s0,s1,s2,s3,s4⟩
                 go_simp
                 with_reducible rfl
                rotate_left
                ·simp only [Act.put,q1,q2,q3,i64_w,i32_w]
                 rfl
                refine pure_ (i:=6) (N:=some 97) (v:=?_) (a':=?_) #[Y,Y,Y,Y,Y,Y,Y,Z,Y,Z,Z,Z,Z,Z,Z,Z] rfl rfl (any_of HT_.out D2) hh (Or.inl ⟨D16,?_⟩) ?_ ?_
                rotate_left
                ·intro w'
                 go_simp
                 with_reducible rfl
                rotate_left
                ·simp only [Act.put,q1,q2,q3,i64_w,i32_w]
                 rfl
                refine take_ (i:=7) (N:=some 98) (v:=?_) (a':=?_) #[Y,Y,Y,Y,Y,Y,Y,Y,Y,Z,Z,Z,Z,Z,Z,Z] rfl rfl (take_ofW HT_.out HW_.out D2) hh (Or.inl ⟨D16,?_⟩) hHeld ?_ ?_
                rotate_left
                ·rintro w' ⟨s0,s1,s2,s3,s4⟩
                 go_simp
                 with_reducible rfl
                rotate_left
                ·simp only [Act.put,q1,q2,q3,i64_w,i32_w]
                 rfl
                refine join_ (σ:=Nat) 2 #[Y,Y,Y,Y,Y,Y,Y,Y,Y,Y,Y,Y,Y,Y,Z,Z] (fun s_=>[(100, .tuple #[.agg #[.int .i64 t571, .int .u8 t572], .bool false]),(18, .pointer (some ⟨s_,0,none⟩)),(90, .tuple #[.agg #[.int .i64 t571, .int .u8 t572], .bool false]),(101, .agg #[.int .i64 t571, .int .u8 t572]),(102, .bool false)]) (fun s_ w'=>(w'.cell? ⟨gb548,0,none⟩=some (.int .i64 t543)∧w'.cell? ⟨gb548,1,none⟩=some (.int .i64 t544)∧w'.cell? (ad569.add ((rd y564 x86_2)).toNat)=some (.int .i64 (rd x12_1 (rd y564 x86_2)))∧w'.cell? (ad570.add (((rd x12_1 (rd y564 x86_2))).toNat*2))=some (.int .i64 ((rd_T76 t549 (rd x12_1 (rd y564 x86_2))).f0))∧w'.cell? ⟨(ad570.add (((rd x12_1 (rd y564 x86_2))).toNat*2)).block,(ad570.add (((rd x12_1 (rd y564 x86_2))).toNat*2)).off+1,none⟩=some (.slice A570_1 ((rd_T76 t549 (rd x12_1 (rd y564 x86_2))).f1).length c570_1))∧(Kd.R (Kd.int .u8) 5 w' w.heap.size (fun k_=>some k_ ≠ (.slice (some ad570) t549.length co75:Value).ownBlock) (.slice A570_1 ((rd_T76 t549 (rd x12_1 (rd y564 x86_2))).f1).length c570_1) ((rd_T76 t549 (rd x12_1 (rd y564 x86_2))).f1))∧(Kd.R (Kd.int .i64) 3 w' w.heap.size (fun _=>True) (.slice (some ad569) x12_1.length co38) x12_1)∧(Kd.R (Kd.int .i64) 3 w' w.heap.size (fun _=>True) (.slice (some ad568) t561.length co41) t561)∧(Kd.R k85 85 w' w.heap.size (fun k_=>k_ ≠ s_) u15 x15_2)∧(Kd.S k76 76 w' w.heap.size (fun _=>True) (.slice (some ad570) t549.length co75) t549)∧(w'.heap[gb548]? = some (.cells #[.int .i64 t543, .int .i64 t544] 30 (0,0)))∧(w'.heap[s_]? = some (.cells #[.int .i64 0, .int .u8 0] 85 (0,0)))∧(w.heap.size≤s_)∧(w.heap.size≤s_)∧(gb548 ≠ s_)∧(s_ ≠ gb548)∧(Below w.heap.size w w')) ?_ ?_
                rotate_left
                ·intro hCont
                 refine two_ (i:=9) (j:=13) (Ni:=some 100) (Nj:=some 18) #[Y,Y,Y,Y,Y,Y,Y,Y,Y,Y,Z,Z,Z,Z,Z,Z] #[Y,Y,Y,Y,Y,Y,Y,Y,Y,Z,Z,Z,Z,Y,Z,Z] rfl rfl rfl rfl (two_of HT_.out D2) D5 D5 (fun K hK=>?_) (fun K hK=>?_)
                 ·skip
                  refine goes_ Try.func54 D2 rfl #[.agg #[.int .i64 t543, .int .i64 t544], .agg #[.int .i64 ((rd_T76 t549 (rd x12_1 (rd y564 x86_2))).f0), .slice A570_1 ((rd_T76 t549 (rd x12_1 (rd y564 x86_2))).f1).length c570_1], .int .i64 (Int.tmod t557 t543)] D16 rfl rfl D8 ?_
                  with_reducible refine (impl_HelpFor.calls k2 t543 t544 ((rd_T76 t549 (rd x12_1 (rd y564 x86_2))).f0) _ _ ((rd_T76 t549 (rd x12_1 (rd y564 x86_2))).f1) (Int.tmod t557 t543) t571 t572 false _ ?side1 ?side2 A49.out).mono ?_
                  (case side1=>repeat (first|exact D6|(with_reducible refine Kd.C_alloc ?_ _)|(with_reducible refine Kd.C_drewN ?_ _)|(with_reducible refine Kd.C_drew ?_)))
                  (case side2=>exact HC570_1.out)
                  rintro e w76 ⟨rfl,hb⟩
                  have HS2_:=(hb.cell (World.block_lt_of_cell? _ _ (hHeld.2.2.1))).trans (hHeld.2.2.1)
                  have HS3_:=(hb.cell (World.block_lt_of_cell? _ _ (hHeld.2.2.2.1))).trans (hHeld.2.2.2.1)
                  have HS4_:=(hb.cell (World.block_lt_of_cell? _ _ (hHeld.2.2.2.2))).trans (hHeld.2.2.2.2)
                  refine ⟨_,rfl,?_⟩
                  replace HO_7:=bS HO_7 hb
                  replace HO_12:=bR HO_12 hb
                  replace HO_563:=bR HO_563 hb
                  replace HO_15:=bR HO_15 hb
                  replace HL570_1:=bR HL570_1 hb
                  replace BK548:=yb BK548 hb
                  replace HR570_1:=am (Kd.C_below D6 hb)
                  replace HB:=yH HB hb
                  (try clear hb)
                  (try clear hb2)
                  (try clear hk)
                  (try clear hi)
                  refine hK.out _ _ ⟨yk BK548 0,yk BK548 1,HS2_,HS3_,HS4_⟩ (fun hHeld=>?_)
                  clear hK K
                  refine norm_ (nA 100) ?_
                  refine pure_ (i:=10) (N:=some 90) (v:=?_) (a':=?_) #[Y,Y,Y,Y,Y,Y,Y,Y,Y,Y,Y,Z,Z,Z,Z,Z] rfl rfl (any_of HT_.out D2) hh (Or.inl ⟨D16,?_⟩) ?_ ?_
                  rotate_left
                  ·intro w'
                   go_simp
                   with_reducible rfl
                  rotate_left
                  ·simp only [Act.put,q1,q2,q3,i64_w,i32_w]
                   rfl
                  refine pure_ (i:=11) (N:=some 101) (v:=?_) (a':=?_) #[Y,Y,Y,Y,Y,Y,Y,Y,Y,Y,Y,Y,Z,Z,Z,Z] rfl rfl (any_of HT_.out D2) hh (Or.inl ⟨D16,?_⟩) ?_ ?_
                  rotate_left
                  ·intro w'
                   go_simp
                   with_reducible rfl
                  rotate_left
                  ·simp only [Act.put,q1,q2,q3,i64_w,i32_w]
                   rfl
                  refine pure_ (i:=12) (N:=some 102) (v:=?_) (a':=?_) #[Y,Y,Y,Y,Y,Y,Y,Y,Y,Y,Y,Y,Y,Z,Z,Z] rfl rfl (any_of HT_.out D2) hh (Or.inl ⟨D16,?_⟩) ?_ ?_
                  rotate_left
                  ·intro w'
                   go_simp
                   with_reducible rfl
                  rotate_left
                  ·simp only [Act.put,q1,q2,q3,i64_w,i32_w]
                   rfl
                  refine one_ (i:=13) (N:=some 18) #[Y,Y,Y,Y,Y,Y,Y,Y,Y,Y,Y,Y,Y,Y,Z,Z] rfl rfl (one_of HT_.out D2) D5 (fun K hK=>?_)
                  refine box_step ?hg (N:=18) ?hd (cs:=#[.int .i64 0, .int .u8 0]) (t:=85) ?hr ?_;(case hd=>rfl);(case hg=>rfl);(case hr=>first|(go_simp;done)|(go_simp;rfl))
                  intro gb574 hg w77 hbox hb
                  have HS2_:=(hb.cell (World.block_lt_of_cell? _ _ (hHeld.2.2.1))).trans (hHeld.2.2.1)
                  have HS3_:=(hb.cell (World.block_lt_of_cell? _ _ (hHeld.2.2.2.1))).trans (hHeld.2.2.2.1)
                  have HS4_:=(hb.cell (World.block_lt_of_cell? _ _ (hHeld.2.2.2.2))).trans (hHeld.2.2.2.2)
                  replace HO_7:=bS HO_7 hb
                  replace HO_12:=bR HO_12 hb
                  replace HO_563:=bR HO_563 hb
                  replace HO_15:=oR HO_15 hg hb
                  replace HL570_1:=bR HL570_1 hb
                  replace HR570_1:=am (Kd.C_below D6 hb)
                  have BK574:=am (hbox)
                  have GW574:=ye HB hg
                  replace HB:=yH HB hb
                  have NB548_574:=yl BK548 hg
                  have NB574_548:=yg BK548 hg
                  replace BK548:=yb BK548 hb
                  have GE574:=GW574
                  clear hb hbox hg
                  refine hK.out _ _ ⟨yk BK548 0,yk BK548 1,HS2_,HS3_,HS4_⟩ (fun hHeld=>?_)
                  clear hK K
                  refine norm_ (nA 18) ?_
                  exact norm_ D83 (hCont (gb574) _ ⟨hHeld,D77,(yR HO_12),(yR HO_563),D78,(yS HO_7),(yB BK548),(yB BK574),GW574.out,GE574.out,NB548_574.out,NB574_548.out,(yW HB)⟩)
                 skip
                 refine box_step ?hg (N:=18) ?hd (cs:=#[.int .i64 0, .int .u8 0]) (t:=85) ?hr ?_;(case hd=>rfl);(case hg=>rfl);(case hr=>first|(go_simp;done)|(go_simp;rfl))
                 intro gb574 hg w76 hbox hb
                 have HS2_:=(hb.cell (World.block_lt_of_cell? _ _ (hHeld.2.2.1))).trans (hHeld.2.2.1)
                 have HS3_:=(hb.cell (World.block_lt_of_cell? _ _ (hHeld.2.2.2.1))).trans (hHeld.2.2.2.1)
                 have HS4_:=(hb.cell (World.block_lt_of_cell? _ _ (hHeld.2.2.2.2))).trans (hHeld.2.2.2.2)
                 replace HO_7:=bS HO_7 hb
                 replace HO_12:=bR HO_12 hb
                 replace HO_563:=bR HO_563 hb
                 replace HO_15:=oR HO_15 hg hb
                 replace HL570_1:=bR HL570_1 hb
                 replace HR570_1:=am (Kd.C_below D6 hb)
                 have BK574:=am (hbox)
                 have GW574:=ye HB hg
                 replace HB:=yH HB hb
                 have NB548_574:=yl BK548 hg
                 have NB574_548:=yg BK548 hg
                 replace BK548:=yb BK548 hb
                 have GE574:=GW574
                 clear hb hbox hg
                 refine hK.out _ _ ⟨yk BK548 0,yk BK548 1,HS2_,HS3_,HS4_⟩ (fun hHeld=>?_)
                 clear hK K
                 refine norm_ (nA 18) ?_
                 refine one_ (i:=9) (N:=some 100) #[Y,Y,Y,Y,Y,Y,Y,Y,Y,Y,Z,Z,Z,Y,Z,Z] rfl rfl (one_of HT_.out D2) D5 (fun K hK=>?_)
                 refine goes_ Try.func54 D2 rfl #[.agg #[.int .i64 t543, .int .i64 t544], .agg #[.int .i64 ((rd_T76 t549 (rd x12_1 (rd y564 x86_2))).f0), .slice A570_1 ((rd_T76 t549 (rd x12_1 (rd y564 x86_2))).f1).length c570_1], .int .i64 (Int.tmod t557 t543)] D16 rfl rfl D8 ?_
                 with_reducible refine (impl_HelpFor.calls k2 t543 t544 ((rd_T76 t549 (rd x12_1 (rd y564 x86_2))).f0) _ _ ((rd_T76 t549 (rd x12_1 (rd y564 x86_2))).f1) (Int.tmod t557 t543) t571 t572 false _ ?side1 ?side2 A49.out).mono ?_
                 (case side1=>repeat (first|exact D6|(with_reducible refine Kd.C_alloc ?_ _)|(with_reducible refine Kd.C_drewN ?_ _)|(with_reducible refine Kd.C_drew ?_)))
                 (case side2=>exact HC570_1.out)
                 rintro e w77 ⟨rfl,hb⟩
                 have HS2_:=(hb.cell (World.block_lt_of_cell? _ _ (hHeld.2.2.1))).trans (hHeld.2.2.1)
                 have HS3_:=(hb.cell (World.block_lt_of_cell? _ _ (hHeld.2.2.2.1))).trans (hHeld.2.2.2.1)
                 have HS4_:=(hb.cell (World.block_lt_of_cell? _ _ (hHeld.2.2.2.2))).trans (hHeld.2.2.2.2)
                 refine ⟨_,rfl,?_⟩
                 replace HO_7:=bS HO_7 hb
                 replace HO_12:=bR HO_12 hb
                 replace HO_563:=bR HO_563 hb
                 replace HO_15:=bR HO_15 hb
                 replace HL570_1:=bR HL570_1 hb
                 replace BK548:=yb BK548 hb
                 replace HR570_1:=am (Kd.C_below D6 hb)
                 replace BK574:=yb BK574 hb
                 replace HB:=yH HB hb
                 (try clear hb)
                 (try clear hb2)
                 (try clear hk)
                 (try clear hi)
                 refine hK.out _ _ ⟨yk BK548 0,yk BK548 1,HS2_,HS3_,HS4_⟩ (fun hHeld=>?_)
                 clear hK K
                 refine norm_ (nA 100) ?_
                 refine pure_ (i:=10) (N:=some 90) (v:=?_) (a':=?_) #[Y,Y,Y,Y,Y,Y,Y,Y,Y,Y,Y,Z,Z,Y,Z,Z] rfl rfl (any_of HT_.out D2) hh (Or.inl ⟨D16,?_⟩) ?_ ?_
                 rotate_left
                 ·intro w'
                  go_simp
                  with_reducible rfl
                 rotate_left
                 ·simp only [Act.put,q1,q2,q3,i64_w,i32_w]
                  rfl
                 refine pure_ (i:=11) (N:=some 101) (v:=?_) (a':=?_) #[Y,Y,Y,Y,Y,Y,Y,Y,Y,Y,Y,Y,Z,Y,Z,Z] rfl rfl (any_of HT_.out D2) hh (Or.inl ⟨D16,?_⟩) ?_ ?_
                 rotate_left
                 ·intro w'
                  go_simp
                  with_reducible rfl
                 rotate_left
                 ·simp only [Act.put,q1,q2,q3,i64_w,i32_w]
                  rfl
                 refine pure_ (i:=12) (N:=some 102) (v:=?_) (a':=?_) #[Y,Y,Y,Y,Y,Y,Y,Y,Y,Y,Y,Y,Y,Y,Z,Z] rfl rfl (any_of HT_.out D2) hh (Or.inl ⟨D16,?_⟩) ?_ ?_
                 rotate_left
                 ·intro w'
                  go_simp
                  with_reducible rfl
                 rotate_left
                 ·simp only [Act.put,q1,q2,q3,i64_w,i32_w]
                  rfl
                 exact norm_ D83 (hCont (gb574) _ ⟨hHeld,D77,(yR HO_12),(yR HO_563),D78,(yS HO_7),(yB BK548),(yB BK574),GW574.out,GE574.out,NB548_574.out,NB574_548.out,(yW HB)⟩)
                rintro gb574 w78 ⟨hS_,h0_,h1_,hz_,h2_,h3_,h4_,h5_,h6_,h7_,h8_,h9_,h10_⟩
                have n0_:Aside0 (Kd.R (Kd.int .u8) 5 w78 w.heap.size (fun k_=>some k_ ≠ (.slice (some ad570) t549.length co75:Value).ownBlock) (.slice A570_1 ((rd_T76 t549 (rd x12_1 (rd y564 x86_2))).f1).length c570_1) ((rd_T76 t549 (rd x12_1 (rd y564 x86_2))).f1)):=⟨h0_⟩
                have n1_:Aside0 (Kd.R (Kd.int .i64) 3 w78 w.heap.size (fun _=>True) (.slice (some ad569) x12_1.length co38) x12_1):=⟨h1_⟩
                have nz_:Aside0 (Kd.R (Kd.int .i64) 3 w78 w.heap.size (fun _=>True) (.slice (some ad568) t561.length co41) t561):=⟨hz_⟩
                have n2_:Aside0 (Kd.R k85 85 w78 w.heap.size (fun k_=>k_ ≠ gb574) u15 x15_2):=⟨h2_⟩
                have n3_:Aside0 (Kd.S k76 76 w78 w.heap.size (fun _=>True) (.slice (some ad570) t549.length co75) t549):=⟨h3_⟩
                have n4_:Aside0 (w78.heap[gb548]? = some (.cells #[.int .i64 t543, .int .i64 t544] 30 (0,0))):=⟨h4_⟩
                have n5_:Aside0 (w78.heap[gb574]? = some (.cells #[.int .i64 0, .int .u8 0] 85 (0,0))):=⟨h5_⟩
                have n6_:Aside0 (w.heap.size≤gb574):=⟨h6_⟩
                have n7_:Aside0 (w.heap.size≤gb574):=⟨h7_⟩
                have n8_:Aside0 (gb548 ≠ gb574):=⟨h8_⟩
                have n9_:Aside0 (gb574 ≠ gb548):=⟨h9_⟩
                have n10_:Aside0 (Below w.heap.size w w78):=⟨h10_⟩
                clear HO_7
                clear HO_12
                clear HO_563
                clear HO_15
                clear BK548
                clear HB
                clear h0_ h1_ hz_ h2_ h3_ h4_ h5_ h6_ h7_ h8_ h9_ h10_
                have HL570_1:=n0_
                have HO_12:=n1_
                have HO_563:=nz_
                have HO_15:=n2_
                have HO_7:=n3_
                have BK548:=n4_
                have BK574:=n5_
                have GW574:=n6_
                have GE574:=n7_
                have NB548_574:=n8_
                have NB574_548:=n9_
                have HB:=n10_
                clear n0_ n1_ nz_ n2_ n3_ n4_ n5_ n6_ n7_ n8_ n9_ n10_
                have hHeld:w78.cell? ⟨gb548,0,none⟩=some (.int .i64 t543)∧w78.cell? ⟨gb548,1,none⟩=some (.int .i64 t544)∧w78.cell? (ad569.add ((rd y564 x86_2)).toNat)=some (.int .i64 (rd x12_1 (rd y564 x86_2)))∧w78.cell? (ad570.add (((rd x12_1 (rd y564 x86_2))).toNat*2))=some (.int .i64 ((rd_T76 t549 (rd x12_1 (rd y564 x86_2))).f0))∧w78.cell? ⟨(ad570.add (((rd x12_1 (rd y564 x86_2))).toNat*2)).block,(ad570.add (((rd x12_1 (rd y564 x86_2))).toNat*2)).off+1,none⟩=some (.slice A570_1 ((rd_T76 t549 (rd x12_1 (rd y564 x86_2))).f1).length c570_1):=hS_
                refine norm_ (a':=?_) ?_ ?_
                rotate_left
                ·simp only [putAll,Act.put,q1,q2,q3]
                 rfl
                refine one_ (i:=14) (N:=none) #[Y,Y,Y,Y,Y,Y,Y,Y,Y,Y,Y,Y,Y,Y,Y,Z] rfl rfl (one_of HT_.out D2) D5 (fun K hK=>?_)
                have hs79:w78.cell? ⟨gb574,0,none⟩=some (.int .i64 0):=(blk_cell BK574.out 0).trans rfl
                have hfs79:=blk_frozen BK574.out 0
                have hns79_0:=NB548_574.out
                have hms79_0:=NB574_548.out
                have hs80:w78.cell? ⟨gb574,1,none⟩=some (.int .u8 0):=(blk_cell BK574.out 1).trans rfl
                have hfs80:=blk_frozen BK574.out 1
                have hns80_0:=NB548_574.out
                have hms80_0:=NB574_548.out
                refine skip_ (w1:=?_) D16 rfl ?_ ?_
                rotate_left
                ·go_simp
                 rfl
                refine hK.out _ _ ⟨((cell_far (p:=⟨gb574,_,none⟩) NB548_574.out _).trans (((cell_far (p:=⟨gb574,_,none⟩) NB548_574.out _).trans (hHeld.1)))),((cell_far (p:=⟨gb574,_,none⟩) NB548_574.out _).trans (((cell_far (p:=⟨gb574,_,none⟩) NB548_574.out _).trans (hHeld.2.1)))),((cell_far (p:=⟨gb574,_,none⟩) D20 _).trans (((cell_far (p:=⟨gb574,_,none⟩) D20 _).trans (hHeld.2.2.1)))),((cell_far (p:=⟨gb574,_,none⟩) D11 _).trans (((cell_far (p:=⟨gb574,_,none⟩) D11 _).trans (hHeld.2.2.2.1)))),((cell_far (p:=⟨gb574,_,none⟩) D11 _).trans (((cell_far (p:=⟨gb574,_,none⟩) D11 _).trans (hHeld.2.2.2.2))))⟩ (fun hHeld=>?_)
                clear hK K
                refine pure_ (i:=15) (N:=some 19) (v:=?_) (a':=?_) #[Y,Y,Y,Y,Y,Y,Y,Y,Y,Y,Y,Y,Y,Y,Y,Y] rfl rfl (any_of HT_.out D2) hh (Or.inl ⟨D16,?_⟩) ?_ ?_
                rotate_left
                ·intro w'
                 go_simp
                 with_reducible rfl
                rotate_left
                ·simp only [Act.put,q1,q2,q3,i64_w,i32_w]
                 rfl
                refine done_ (done_of HT_.out D2) ?_
                try go_wp2
                generalize hw_:((w78.setCell ⟨gb574,0,none⟩ (.int .i64 t571)).setCell ⟨gb574,1,none⟩ (.int .u8 t572))=w81
                replace HO_7:Aside0 (Kd.S k76 76 w81 w.heap.size (fun _=>True) (.slice (some ad570) t549.length co75) t549):=⟨D61⟩
                replace HO_12:Aside0 (Kd.R (Kd.int .i64) 3 w81 w.heap.size (fun _=>True) (.slice (some ad569) x12_1.length co38) x12_1):=⟨D60⟩
                replace HO_563:Aside0 (Kd.R (Kd.int .i64) 3 w81 w.heap.size (fun _=>True) (.slice (some ad568) t561.length co41) t561):=⟨D59⟩
                replace HO_15:Aside0 (Kd.R k85 85 w81 w.heap.size (fun k_=>k_ ≠ gb574) u15 x15_2):=⟨D51⟩
                replace HL570_1:Aside0 (Kd.R (Kd.int .u8) 5 w81 w.heap.size (fun k_=>some k_ ≠ (.slice (some ad570) t549.length co75:Value).ownBlock) (.slice A570_1 ((rd_T76 t549 (rd x12_1 (rd y564 x86_2))).f1).length c570_1) ((rd_T76 t549 (rd x12_1 (rd y564 x86_2))).f1)):=⟨D62⟩
                replace BK548:Aside0 (w81.heap[gb548]? = some (.cells #[.int .i64 t543, .int .i64 t544] 30 (0,0))):=⟨D118⟩
                replace BK574:Aside0 (w81.heap[gb574]? = some (.cells #[.int .i64 t571, .int .u8 t572] 85 (0,0))):=⟨D72⟩
                replace HB:Aside0 (Below w.heap.size w w81):=⟨D69⟩
                clear hw_
                replace HO_7:=am (Kd.S_drew HO_7.out)
                replace HO_12:=am (Kd.R_drew HO_12.out)
                replace HO_563:=am (Kd.R_drew HO_563.out)
                replace HO_15:=am (Kd.R_drew HO_15.out)
                replace HL570_1:=am (Kd.R_drew HL570_1.out)
                replace BK548:=am (qd BK548.out)
                replace BK574:=am (qd BK574.out)
                replace HB:=am (pd HB.out)
                refine rS (n:=11) (S:=fun w'=>True) (ds:=[]) [(0,103),(1,104),(2,105),(3,106),(4,107),(5,108),(6,109),(7,110),(8,111),(9,112),(10,113)] D2 rfl laws_FnRegenerated.tab22 laws_FnRegenerated.bits22 trivial (fun hHeld HT_ HW_=>?_)
                generalize w81.drew=w82 at HO_7 HO_12 HO_563 HO_15 HL570_1 BK548 BK574 HB hHeld ⊢
                refine rR ?_
                refine rD HT_ D2 ?_
                try go_wp2
                go_ret
                exact ⟨D76,yW HB⟩
               rw [if_neg c48] at H
               exact absurd H D44
              rw [if_neg c47] at H
              exact absurd H D44
             rw [if_neg c46] at H
             exact absurd H D44
            rw [if_neg c45] at H
            exact absurd H D44
           rw [if_neg c44] at H
           exact absurd H D44
          rw [if_neg c43] at H
          exact absurd H D44
         rw [if_neg c42] at H
         have c42b0:=decide_eq_false c42
         clear c42
         obtain ⟨⟨t579,t580,t583⟩,A83,H⟩:=yo H
         try dsimp only at H
         have HC84:=am H
         clear H
         obtain ⟨hcz85_0,hcz85_1,hfz85_0,hfz85_1⟩:=yk2 BK548
         obtain ⟨Ao86,co86,eo86⟩:=Kd.R_slice HO_15.out
         subst eo86
         go_upto_region 27 with (first|((with_reducible refine gC 55 ?_);refine gM (some 123) Try.func55 (args:=#[.agg #[.int .i64 t543, .int .i64 t544], .int .i64 (Int.tmod t557 t543), .slice Ao86 x15_2.length co86]) (impl_RegeneratePiece.calls k2 t543 t544 (Int.tmod t557 t543) _ _ x15_2 t579 t580 t583 _ (yc (Kd.R_reads' HO_15.out).2.2) (Kd.R_reads' HO_15.out).2.1 A83.out) ?_;rintro e w87 ⟨v581,rfl,ho0,hb⟩;refine ⟨_,rfl,?_⟩;replace HO_7:=eS HO_7 (Kd.R_base ho0) hb;replace HO_12:=bR HO_12 hb;replace HO_15:=bR HO_15 hb;have HO582:=am (Kd.R_lower ho0 (pz (yW HB)));replace BK548:=yb BK548 hb;replace HB:=yH HB hb;clear hb ho0)|((with_reducible refine gD 20 ?_);refine gB (cs:=#[.int .i64 0, .slice none 0 0]) 76 ?_;intro gb584 hg w88 hbox hb;replace HO_7:=oS HO_7 hg hb;replace HO_12:=bR HO_12 hb;replace HO_15:=bR HO_15 hb;replace HO582:=bR HO582 hb;have BK584:=am (hbox);have GW584:=ye HB hg;replace HB:=yH HB hb;have NB548_584:=yl BK548 hg;have NB584_548:=yg BK548 hg;replace BK548:=yb BK548 hb;have GE584:=GW584;clear hb hbox hg;have hnb89:=NB584_548.out;have hnc89:=NB548_584.out;obtain ⟨hcz90_0,hcz90_1,hfz90_0,hfz90_1⟩:=yk2 BK584;obtain ⟨Ao91,co91,eo91⟩:=Kd.R_slice HO582.out;subst eo91))
         (try simp only [Act.put,q1,q2,q3])
         go_cut [144] (fun v144 wc=>∃ (kq:Nat) (x144_83:Bool),v144 = .bool x144_83∧Aside0 (laws_FnRegenerated.j2 kq l1 x144_83=some r)∧Aside0 (kq≤k2)∧Aside0 (Kd.R (Kd.int .u8) 5 wc w.heap.size (fun _=>True) (.slice Ao91 t580.length co91) t580)∧Aside0 (wc.heap[gb548]? = some (.cells #[.int .i64 t543, .int .i64 t544] 30 (0,0)))∧Aside0 (wc.heap[gb584]? = some (.cells #[.int .i64 t579,(.slice Ao91 t580.length co91)] 76 (0,0)))∧Aside0 (Below w.heap.size w wc))
         case first =>
          have H:=HC84.out
          clear HC84
          by_cases c92:t583=true
          ·subst c92
           replace H:=yt H
           by_cases c93:t579=(Int.tmod t557 t543)
           ·rw [if_pos c93] at H
            have c93b0:(t579 == (Int.tmod t557 t543))=true:=beq_iff_eq.mpr c93
            have c93b1:(t579 != (Int.tmod t557 t543))=false:=bne_eq_false_iff_eq.mpr c93
            clear c93
            (first|rw [c93b0]|(simp only [i64_w,i32_w];rw [c93b0])|skip)
            generalize hji94:(Int.tmod t557 t543)=ji94 at H
            (try rw [hji94] at c93b0)
            (try rw [hji94] at c93b1)
            by_cases c95:0≤(ji94)
            ·rw [if_pos c95] at H
             have c95b0:=decide_eq_true c95
             clear c95
             by_cases c96:(ji94) < (t549.length:Int)
             ·rw [if_pos c96] at H
              have c96b0:=decide_eq_true c96
              clear c96
              obtain ⟨t586,A97,H⟩:=yo H
              have H':=am H
              clear H
              try go_wp2
              generalize hw_:((w88.setCell ⟨gb584,0,none⟩ (.int .i64 t579)).setCell ⟨gb584,1,none⟩ (.slice Ao91 t580.length co91))=w98
              replace HO_7:Aside0 (Kd.S k76 76 w98 w.heap.size (fun k_=>some k_ ≠ (.slice Ao91 t580.length co91:Value).ownBlock∧k_ ≠ gb584) v550 t549):=⟨D45⟩
              replace HO_12:Aside0 (Kd.R (Kd.int .i64) 3 w98 w.heap.size (fun _=>True) (.slice Ao38 x12_1.length co38) x12_1):=⟨D53⟩
              replace HO_15:Aside0 (Kd.R k85 85 w98 w.heap.size (fun _=>True) (.slice Ao86 x15_2.length co86) x15_2):=⟨D52⟩
              replace HO582:Aside0 (Kd.R (Kd.int .u8) 5 w98 w.heap.size (fun _=>True) (.slice Ao91 t580.length co91) t580):=⟨D54⟩
              replace BK548:Aside0 (w98.heap[gb548]? = some (.cells #[.int .i64 t543, .int .i64 t544] 30 (0,0))):=⟨D118⟩
              replace BK584:Aside0 (w98.heap[gb584]? = some (.cells #[.int .i64 t579, .slice Ao91 t580.length co91] 76 (0,0))):=⟨D67⟩
              replace HB:Aside0 (Below w.heap.size w w98):=⟨D69⟩
              clear hw_
              replace HO_7:=am (Kd.S_drew HO_7.out)
              replace HO_12:=am (Kd.R_drew HO_12.out)
              replace HO_563:=am (Kd.R_drew HO_563.out)
              replace HO_15:=am (Kd.R_drew HO_15.out)
              replace HO582:=am (Kd.R_drew HO582.out)
              replace BK548:=am (qd BK548.out)
              replace BK584:=am (qd BK584.out)
              replace HB:=am (pd HB.out)
              obtain ⟨Ao100,co100,eo100⟩:=Kd.S_slice HO_7.out
              (first|subst eo100|(injection eo100 with f1_ f2_ f3_;have f4_:=f1_.symm;have f5_:=f3_.symm;clear f1_ f2_ f3_;subst f4_;subst f5_))
              have p585:0≤((ji94):Int):=od D0
              have q585:(ji94) < (t549.length:Int):=od D0
              obtain ⟨ad585,A585_1,c585_1,e585,hx585_0,hx585_1,hl585_1,hi585_1⟩:=at_T76 (Kd.S_reads' HO_7.out).2.2 (ji94) p585 q585
              cases e585
              obtain ⟨ce585,hce585,hMe585,hcc585⟩:=Kd.S_get HO_7.out z76 (ji94) p585 (by first|exact q585|exact od D0|(have e_:=(Kd.S_reads' HO_7.out).1;omega))
              obtain ⟨ve585_1,rfl,ge585_1⟩:=k76_openM hMe585
              have hv585_1:=hcc585 1 _ rfl
              rw [add_field _ _ 1 D13] at hv585_1
              replace hv585_1:=Option.some.inj (hv585_1.symm.trans hx585_1)
              rw [hv585_1] at ge585_1
              have HL585_1:=am (show Kd.R (Kd.int .u8) 5 _ _ _ _ ((rd_T76 t549 (ji94)).f1) from ge585_1)
              clear hv585_1 ge585_1
              clear hcc585 hce585
              have HR585_1:=am hi585_1
              have HC585_1:=am hl585_1
              clear hi585_1 hl585_1
              replace p585:=eq_true p585
              replace q585:=eq_true q585
              refine rS (n:=19) (S:=fun w'=>w'.cell? ⟨gb584,0,none⟩=some (.int .i64 t579)∧w'.cell? ⟨gb584,1,none⟩=some (.slice Ao91 t580.length co91)∧w'.cell? (ad585.add (((ji94)).toNat*2))=some (.int .i64 ((rd_T76 t549 (ji94)).f0))∧w'.cell? ⟨(ad585.add (((ji94)).toNat*2)).block,(ad585.add (((ji94)).toNat*2)).off+1,none⟩=some (.slice A585_1 ((rd_T76 t549 (ji94)).f1).length c585_1)) (ds:=[]) [(0,126),(1,127),(2,128),(3,129),(5,131),(4,130),(6,132),(7,133),(8,134),(9,135),(11,137),(12,138),(13,139),(14,140),(10,136),(15,141),(16,0),(17,143),(18,144)] D2 rfl laws_FnRegenerated.tab27 laws_FnRegenerated.bits27 ⟨yk BK584 0,yk BK584 1,hx585_0,hx585_1⟩ (fun hHeld HT_ HW_=>?_)
              generalize w98.drew=w99 at HO_7 HO_12 HO_15 HO582 BK548 BK584 HB HL585_1 HR585_1 hx585_0 hx585_1 hHeld ⊢
              refine rR ?_
              refine rO (N:=some 142) HT_ rfl rfl D2 D5 (fun K hK=>?_)
              refine goes_ Try.func49 D2 rfl #[.slice Ao91 t580.length co91, .slice A585_1 ((rd_T76 t549 (ji94)).f1).length c585_1] D16 rfl rfl (by (try simp only [q4,q5,q6]);first|done|(simp only [hji94];rfl)|rfl|(simp only [q7,q8];rfl)) ?_
              with_reducible refine (laws_sameBytes.calls _ _ t580 _ _ ((rd_T76 t549 (ji94)).f1) t586 _ ?side1 ?side2 ?side3 ?side4 A97.out).mono ?_
              (case side1=>repeat (first|exact (Kd.R_reads' HO582.out).2.2|(with_reducible refine Kd.C_alloc ?_ _)|(with_reducible refine Kd.C_drewN ?_ _)|(with_reducible refine Kd.C_drew ?_)))
              (case side2=>exact (Kd.R_reads' HO582.out).2.1)
              (case side3=>repeat (first|exact (by repeat (first|(with_reducible exact HR585_1.out)|(with_reducible refine Kd.C_alloc ?_ _)|(with_reducible refine Kd.C_drewN ?_ _)|(with_reducible refine Kd.C_drew ?_)|exact HR585_1.out))|(with_reducible refine Kd.C_alloc ?_ _)|(with_reducible refine Kd.C_drewN ?_ _)|(with_reducible refine Kd.C_drew ?_)))
              (case side4=>exact HC585_1.out)
              rintro e w' ⟨rfl,⟨nd,rfl⟩⟩
              refine ⟨_,rfl,?_⟩
              refine hK.out _ _ ⟨yk BK584 0,yk BK584 1,hHeld.2.2.1,hHeld.2.2.2⟩ (fun hHeld=>?_)
              clear hK K
              refine rN (nA 142) ?_
              refine rR ?_
              refine rD HT_ D2 ?_
              try go_wp2
              (try simp only [← hji94])
              go_meet
              case rel=>exact ⟨_,(!t586),D1,H',⟨D121⟩,⟨yR HO582⟩,⟨yB BK548⟩,⟨yB BK584⟩,⟨yW HB⟩⟩
             rw [if_neg c96] at H
             exact absurd H D44
            rw [if_neg c95] at H
            exact absurd H D44
           rw [if_neg c93] at H
           have c93b0:(t579 == (Int.tmod t557 t543))=false:=beq_eq_false_iff_ne.mpr c93
           have c93b1:(t579 != (Int.tmod t557 t543))=true:=bne_iff_ne.mpr c93
           (first|rw [c93b0]|(simp only [i64_w,i32_w];rw [c93b0])|skip)
           have H':=am H
           clear H
           try go_wp2
           generalize hw_:((w88.setCell ⟨gb584,0,none⟩ (.int .i64 t579)).setCell ⟨gb584,1,none⟩ (.slice Ao91 t580.length co91))=w101
           replace HO_7:Aside0 (Kd.S k76 76 w101 w.heap.size (fun k_=>some k_ ≠ (.slice Ao91 t580.length co91:Value).ownBlock∧k_ ≠ gb584) v550 t549):=⟨D45⟩
           replace HO_12:Aside0 (Kd.R (Kd.int .i64) 3 w101 w.heap.size (fun _=>True) (.slice Ao38 x12_1.length co38) x12_1):=⟨D53⟩
           replace HO_15:Aside0 (Kd.R k85 85 w101 w.heap.size (fun _=>True) (.slice Ao86 x15_2.length co86) x15_2):=⟨D52⟩
           replace HO582:Aside0 (Kd.R (Kd.int .u8) 5 w101 w.heap.size (fun _=>True) (.slice Ao91 t580.length co91) t580):=⟨D54⟩
           replace BK548:Aside0 (w101.heap[gb548]? = some (.cells #[.int .i64 t543, .int .i64 t544] 30 (0,0))):=⟨D118⟩
           replace BK584:Aside0 (w101.heap[gb584]? = some (.cells #[.int .i64 t579, .slice Ao91 t580.length co91] 76 (0,0))):=⟨D67⟩
           replace HB:Aside0 (Below w.heap.size w w101):=⟨D69⟩
           clear hw_
           replace HO_7:=am (Kd.S_drew HO_7.out)
           replace HO_12:=am (Kd.R_drew HO_12.out)
           replace HO_563:=am (Kd.R_drew HO_563.out)
           replace HO_15:=am (Kd.R_drew HO_15.out)
           replace HO582:=am (Kd.R_drew HO582.out)
           replace BK548:=am (qd BK548.out)
           replace BK584:=am (qd BK584.out)
           replace HB:=am (pd HB.out)
           refine rS (n:=19) (S:=fun w'=>w'.cell? ⟨gb584,0,none⟩=some (.int .i64 t579)∧w'.cell? ⟨gb584,1,none⟩=some (.slice Ao91 t580.length co91)) (ds:=[]) [(0,126),(1,127),(2,128),(3,129),(5,131),(4,130),(6,132),(7,133),(8,134),(9,135),(10,136),(11,137),(12,138),(13,139),(14,140),(15,141),(16,142),(17,143),(18,144)] D2 rfl laws_FnRegenerated.tab27 laws_FnRegenerated.bits27 ⟨yk BK584 0,yk BK584 1⟩ (fun hHeld HT_ HW_=>?_)
           generalize w101.drew=w102 at HO_7 HO_12 HO_15 HO582 BK548 BK584 HB hHeld ⊢
           refine rR ?_
           refine rD HT_ D2 ?_
           try go_wp2
           go_meet
           case rel=>exact ⟨_,(true),D1,H',⟨D121⟩,⟨yR HO582⟩,⟨yB BK548⟩,⟨yB BK584⟩,⟨yW HB⟩⟩
          replace c92:=Bool.eq_false_iff.mpr c92
          subst c92
          replace H:=yn H
          have H':=am H
          clear H
          try go_wp2
          generalize hw_:((w88.setCell ⟨gb584,0,none⟩ (.int .i64 t579)).setCell ⟨gb584,1,none⟩ (.slice Ao91 t580.length co91))=w103
          replace HO_7:Aside0 (Kd.S k76 76 w103 w.heap.size (fun k_=>some k_ ≠ (.slice Ao91 t580.length co91:Value).ownBlock∧k_ ≠ gb584) v550 t549):=⟨D45⟩
          replace HO_12:Aside0 (Kd.R (Kd.int .i64) 3 w103 w.heap.size (fun _=>True) (.slice Ao38 x12_1.length co38) x12_1):=⟨D53⟩
          replace HO_15:Aside0 (Kd.R k85 85 w103 w.heap.size (fun _=>True) (.slice Ao86 x15_2.length co86) x15_2):=⟨D52⟩
          replace HO582:Aside0 (Kd.R (Kd.int .u8) 5 w103 w.heap.size (fun _=>True) (.slice Ao91 t580.length co91) t580):=⟨D54⟩
          replace BK548:Aside0 (w103.heap[gb548]? = some (.cells #[.int .i64 t543, .int .i64 t544] 30 (0,0))):=⟨D118⟩
          replace BK584:Aside0 (w103.heap[gb584]? = some (.cells #[.int .i64 t579, .slice Ao91 t580.length co91] 76 (0,0))):=⟨D67⟩
          replace HB:Aside0 (Below w.heap.size w w103):=⟨D69⟩
          clear hw_
          replace HO_7:=am (Kd.S_drew HO_7.out)
          replace HO_12:=am (Kd.R_drew HO_12.out)
          replace HO_563:=am (Kd.R_drew HO_563.out)
          replace HO_15:=am (Kd.R_drew HO_15.out)
          replace HO582:=am (Kd.R_drew HO582.out)
          replace BK548:=am (qd BK548.out)
          replace BK584:=am (qd BK584.out)
          replace HB:=am (pd HB.out)
          refine rS (n:=19) (S:=fun w'=>True) (ds:=[]) [(0,126),(1,127),(2,128),(3,129),(4,130),(5,131),(6,132),(7,133),(8,134),(9,135),(10,136),(11,137),(12,138),(13,139),(14,140),(15,141),(16,142),(17,143),(18,144)] D2 rfl laws_FnRegenerated.tab27 laws_FnRegenerated.bits27 trivial (fun hHeld HT_ HW_=>?_)
          generalize w103.drew=w104 at HO_7 HO_12 HO_15 HO582 BK548 BK584 HB hHeld ⊢
          refine rR ?_
          refine rD HT_ D2 ?_
          try go_wp2
          go_meet
          case rel=>exact ⟨_,(true),D1,H',⟨D121⟩,⟨yR HO582⟩,⟨yB BK548⟩,⟨yB BK584⟩,⟨yW HB⟩⟩
         case rest =>
          clear HC84
          try clear p2
          try clear c4
          try clear c5
          try clear p5
          try clear q5
          try clear hx5
          try clear c9
          try clear c49
          try clear c58
          try clear p58
          try clear q58
          try clear hx58
          try clear c92
          try clear c93
          try clear c93b0
          try clear c93b1
          try clear c95
          try clear c95b0
          try clear c96
          try clear c96b0
          try clear hx585_0
          try clear hx585_1
          try clear p585
          try clear q585
          obtain ⟨kq,x144_83,rfl,HA,HJ83,HO_585001,BK548,BK584,HB⟩:=hcut
          cases kq with
          | zero=>exact absurd HA.out (by simp [laws_FnRegenerated.j2])
          | succ kj83 =>
           have H:=HA.out
           clear HA
           simp only [laws_FnRegenerated.j2] at H
           by_cases c105:x144_83=true
           ·subst c105
            replace H:=yt H
            obtain rfl:=Option.some.inj H
            go_wp2
            go_ret
            exact ⟨D76,yW HB⟩
           replace c105:=Bool.eq_false_iff.mpr c105
           subst c105
           replace H:=yn H
           have H':=am H
           clear H
           go_wp2
           go_meet
           case rel=>exact ⟨_,H',⟨by have:=HK1.out;have:=HK2.out;have:=HJ83.out;first|omega|exact Nat.le_refl _⟩,⟨yB BK548⟩,⟨yW HB⟩⟩
      rw [if_neg c36] at H
      exact absurd H D44
     rw [if_neg c35] at H
     exact absurd H D44
  replace c23:=Bool.eq_false_iff.mpr c23
  subst c23
  replace H:=yn H
  have H':=am H
  clear H
  go_wp2
  go_meet
  case rel=>exact ⟨_,H',⟨D57⟩,⟨yB BK548⟩,⟨yW HB⟩⟩
 case rest =>
  clear HC15
  try clear c1
  try clear c2
  try clear p2
  try clear c3
  try clear c4
  try clear c5
  try clear p5
  try clear q5
  try clear hx5
  try clear c9
  try clear c10
  try clear c23
  try clear c35
  try clear c36
  try clear c49
  try clear c58
  try clear p58
  try clear q58
  try clear hx58
  try clear c92
  try clear c93
  try clear c93b0
  try clear c93b1
  try clear c95
  try clear c95b0
  try clear c96
  try clear c96b0
  try clear c105
  try clear hx585_0
  try clear hx585_1
  try clear p2
  try clear p5
  try clear p58
  try clear p585
  try clear q5
  try clear q58
  try clear q585
  obtain ⟨kq,HA,HJ14,BK548,HB⟩:=hcut
  cases kq with
  | zero=>exact absurd HA.out (by simp [laws_FnRegenerated.j3])
  | succ kj14 =>
   have H:=HA.out
   clear HA
   simp only [laws_FnRegenerated.j3] at H
   obtain ⟨⟨t587,t588,t589,t590⟩,A106,H⟩:=yo H
   try dsimp only at H
   obtain ⟨⟨t594,t595,t598⟩,A107,H⟩:=yo H
   try dsimp only at H
   obtain ⟨⟨t600,t601,t604⟩,A108,H⟩:=yo H
   try dsimp only at H
   by_cases c109:(t598 == t604)=true
   ·rw [if_pos c109] at H
    have c109b0:(t598 == t604)=true:=c109
    (try (have c109b1:decide (t598=t604)=true:=by simpa using c109))
    (try (have c109b2:(t598 == t604)=true:=by simpa using c109))
    clear c109
    by_cases c110:t594=t600
    ·rw [if_pos c110] at H
     have c110b0:(t594 == t600)=true:=beq_iff_eq.mpr c110
     have c110b1:(t594 != t600)=false:=bne_eq_false_iff_eq.mpr c110
     clear c110
     obtain ⟨t606,A111,H⟩:=yo H
     obtain rfl:=Option.some.inj H
     go_wp2_with (first|((with_reducible refine gC 56 ?_);refine gM (some 147) Try.func56 (args:=#[.slice A1 l1.length c1]) (spec_DrawRegeneratePiece.calls kj14 _ _ l1 t587 t588 t589 t590 _ (yc (Kd.C_below HR1.out HB.out)) HC1.out A106.out) ?_;rintro e w112 ⟨v591,rfl,ho0,hb⟩;refine ⟨_,rfl,?_⟩;have HO592:=am (Kd.R_lower ho0 (pz (yW HB)));replace BK548:=yb BK548 hb;replace HB:=yH HB hb;clear hb ho0)|((with_reducible refine gD 22 ?_);refine gB (cs:=#[.int .i64 0, .int .i64 0]) 30 ?_;intro gb593 hg w113 hbox hb;replace HO592:=bR HO592 hb;have BK593:=am (hbox);have GW593:=ye HB hg;replace HB:=yH HB hb;have NB548_593:=yl BK548 hg;have NB593_548:=yg BK548 hg;replace BK548:=yb BK548 hb;have GE593:=GW593;clear hb hbox hg;have hnb114:=NB593_548.out;have hnc114:=NB548_593.out;obtain ⟨hcz115_0,hcz115_1,hfz115_0,hfz115_1⟩:=yk2 BK593;obtain ⟨Ao116,co116,eo116⟩:=Kd.R_slice HO592.out;subst eo116)|((with_reducible refine gC 55 ?_);refine gM (some 155) Try.func55 (args:=#[.agg #[.int .i64 t587, .int .i64 t588], .int .i64 t589, .slice Ao116 t590.length co116]) (impl_RegeneratePiece.calls kj14 t587 t588 t589 _ _ t590 t594 t595 t598 _ ?side1 ?side2 A107.out) ?_;(case side1=>refine (Kd.R_reads' (e:=85) (base:=w.heap.size) (ok:=fun k_=>True) (n:=t590.length) (c:=co116) ?_).2.2;exact D26);(case side2=>exact (Kd.R_reads' HO592.out).2.1);rintro e w117 ⟨v596,rfl,ho0,hb⟩;refine ⟨_,rfl,?_⟩;replace HO592:=am (Kd.R_below D26 hb);have HO597:=am (Kd.R_lower ho0 (pz (yW HB)));replace BK548:=am (qb (g:=gb548) (o:=.cells #[.int .i64 t543, .int .i64 t544] 30 (0,0)) (yF BK548) hb);replace BK593:=am (qb (g:=gb593) (o:=.cells #[.int .i64 t587, .int .i64 t588] 30 (0,0)) D75 hb);replace HB:=yH HB hb;clear hb ho0)|((with_reducible refine gD 25 ?_);refine gB (cs:=#[.int .i64 0, .slice none 0 0]) 76 ?_;intro gb599 hg w118 hbox hb;replace HO592:=bR HO592 hb;replace HO597:=bR HO597 hb;have BK599:=am (hbox);have GW599:=ye HB hg;replace HB:=yH HB hb;have NB548_599:=yl BK548 hg;have NB599_548:=yg BK548 hg;replace BK548:=yb BK548 hb;have NB593_599:=yl BK593 hg;have NB599_593:=yg BK593 hg;replace BK593:=yb BK593 hb;have GE599:=GW599;clear hb hbox hg;have hnb119:=NB599_548.out;have hnc119:=NB548_599.out;have hnb120:=NB599_593.out;have hnc120:=NB593_599.out;obtain ⟨hcz121_0,hcz121_1,hfz121_0,hfz121_1⟩:=yk2 BK599;obtain ⟨Ao122,co122,eo122⟩:=Kd.R_slice HO597.out;subst eo122;obtain ⟨hcz123_0,hcz123_1,hfz123_0,hfz123_1⟩:=yk2 BK593)|((with_reducible refine gC 57 ?_);refine gM (some 162) Try.func57 (args:=#[.agg #[.int .i64 t587, .int .i64 t588], .int .i64 t589, .slice Ao116 t590.length co116]) (spec_RegeneratePiece.calls kj14 t587 t588 t589 _ _ t590 t600 t601 t604 _ ?side1 ?side2 A108.out) ?_;(case side1=>refine (Kd.R_reads' (e:=85) (base:=w.heap.size) (ok:=fun k_=>True) (n:=t590.length) (c:=co116) ?_).2.2;exact D92);(case side2=>exact (Kd.R_reads' HO592.out).2.1);rintro e w124 ⟨v602,rfl,ho0,hb⟩;refine ⟨_,rfl,?_⟩;replace HO592:=am (Kd.R_below D92 hb);have HO603:=am (Kd.R_lower (Kd.R_new' ho0 (Kd.R_lt D89)) (pz (yW HB)));replace HO597:=am (Kd.R_elder' D89 (Kd.R_base ho0) hb);replace BK548:=am (qb (g:=gb548) (o:=.cells #[.int .i64 t543, .int .i64 t544] 30 (0,0)) (yF BK548) hb);replace BK593:=am (qb (g:=gb593) (o:=.cells #[.int .i64 t587, .int .i64 t588] 30 (0,0)) (yF BK593) hb);replace BK599:=am (qb (g:=gb599) (o:=.cells #[.int .i64 t594, .slice Ao122 t595.length co122] 76 (0,0)) D73 hb);replace HB:=yH HB hb;clear hb ho0)|((with_reducible refine gD 27 ?_);refine gB (cs:=#[.int .i64 0, .slice none 0 0]) 76 ?_;intro gb605 hg w125 hbox hb;replace HO592:=bR HO592 hb;replace HO597:=bR HO597 hb;replace HO603:=bR HO603 hb;have BK605:=am (hbox);have GW605:=ye HB hg;replace HB:=yH HB hb;have NB548_605:=yl BK548 hg;have NB605_548:=yg BK548 hg;replace BK548:=yb BK548 hb;have NB593_605:=yl BK593 hg;have NB605_593:=yg BK593 hg;replace BK593:=yb BK593 hb;have NB599_605:=yl BK599 hg;have NB605_599:=yg BK599 hg;replace BK599:=yb BK599 hb;have GE605:=GW605;clear hb hbox hg;have hnb126:=NB605_548.out;have hnc126:=NB548_605.out;have hnb127:=NB605_593.out;have hnc127:=NB593_605.out;have hnb128:=NB605_599.out;have hnc128:=NB599_605.out;obtain ⟨hcz129_0,hcz129_1,hfz129_0,hfz129_1⟩:=yk2 BK605;obtain ⟨Ao130,co130,eo130⟩:=Kd.R_slice HO603.out;subst eo130;obtain ⟨hcz131_0,hcz131_1,hfz131_0,hfz131_1⟩:=yk2 BK599)|(go_at_call 49;(with_reducible refine (laws_sameBytes.calls _ _ t595 _ _ t601 t606 _ (by refine (Kd.R_reads' (e:=5) (base:=w.heap.size) (ok:=fun k_=>(True∧some k_ ≠ (.slice Ao130 t601.length co130:Value).ownBlock)) (n:=t595.length) (c:=co122) ?_).2.2;exact (by refine sR ?_;exact (Kd.R_mono (Kd.R_far (p:=⟨gb605,1,none⟩) (Kd.R_far (p:=⟨gb605,0,none⟩) (Kd.R_types HO597.out BK605.out D5) (fun _ hk=>hk.2) (.int .i64 t600)) (fun _ hk=>hk.2) (.slice Ao130 t601.length co130)) (fun _ h_=>h_.1)))) (by exact (Kd.R_reads' HO597.out).2.1) (by refine (Kd.R_reads' (e:=5) (base:=w.heap.size) (ok:=fun k_=>(True∧some k_ ≠ (.slice Ao122 t595.length co122:Value).ownBlock)) (n:=t601.length) (c:=co130) ?_).2.2;exact (by refine sR ?_;exact (Kd.R_mono (Kd.R_far (p:=⟨gb605,1,none⟩) (Kd.R_far (p:=⟨gb605,0,none⟩) (Kd.R_types HO603.out BK605.out D5) (fun _ hk=>hk.2) (.int .i64 t600)) (fun _ hk=>hk.2) (.slice Ao130 t601.length co130)) (fun _ h_=>h_.1)))) (by exact (Kd.R_reads' HO603.out).2.1) A111.out).mono ?_);rintro e w' ⟨rfl,⟨nd,rfl⟩⟩))
     go_ret
     exact ⟨D3,yW HB⟩
    rw [if_neg c110] at H
    have c110b0:(t594 == t600)=false:=beq_eq_false_iff_ne.mpr c110
    have c110b1:(t594 != t600)=true:=bne_iff_ne.mpr c110
    obtain rfl:=Option.some.inj H
    go_wp2_with (first|((with_reducible refine gC 56 ?_);refine gM (some 147) Try.func56 (args:=#[.slice A1 l1.length c1]) (spec_DrawRegeneratePiece.calls kj14 _ _ l1 t587 t588 t589 t590 _ (yc (Kd.C_below HR1.out HB.out)) HC1.out A106.out) ?_;rintro e w132 ⟨v591,rfl,ho0,hb⟩;refine ⟨_,rfl,?_⟩;have HO592:=am (Kd.R_lower ho0 (pz (yW HB)));replace BK548:=yb BK548 hb;replace HB:=yH HB hb;clear hb ho0)|((with_reducible refine gD 22 ?_);refine gB (cs:=#[.int .i64 0, .int .i64 0]) 30 ?_;intro gb593 hg w133 hbox hb;replace HO592:=bR HO592 hb;have BK593:=am (hbox);have GW593:=ye HB hg;replace HB:=yH HB hb;have NB548_593:=yl BK548 hg;have NB593_548:=yg BK548 hg;replace BK548:=yb BK548 hb;have GE593:=GW593;clear hb hbox hg;have hnb134:=NB593_548.out;have hnc134:=NB548_593.out;obtain ⟨hcz135_0,hcz135_1,hfz135_0,hfz135_1⟩:=yk2 BK593;obtain ⟨Ao136,co136,eo136⟩:=Kd.R_slice HO592.out;subst eo136)|((with_reducible refine gC 55 ?_);refine gM (some 155) Try.func55 (args:=#[.agg #[.int .i64 t587, .int .i64 t588], .int .i64 t589, .slice Ao136 t590.length co136]) (impl_RegeneratePiece.calls kj14 t587 t588 t589 _ _ t590 t594 t595 t598 _ ?side1 ?side2 A107.out) ?_;(case side1=>refine (Kd.R_reads' (e:=85) (base:=w.heap.size) (ok:=fun k_=>True) (n:=t590.length) (c:=co136) ?_).2.2;exact D26);(case side2=>exact (Kd.R_reads' HO592.out).2.1);rintro e w137 ⟨v596,rfl,ho0,hb⟩;refine ⟨_,rfl,?_⟩;replace HO592:=am (Kd.R_below D26 hb);have HO597:=am (Kd.R_lower ho0 (pz (yW HB)));replace BK548:=am (qb (g:=gb548) (o:=.cells #[.int .i64 t543, .int .i64 t544] 30 (0,0)) (yF BK548) hb);replace BK593:=am (qb (g:=gb593) (o:=.cells #[.int .i64 t587, .int .i64 t588] 30 (0,0)) D75 hb);replace HB:=yH HB hb;clear hb ho0)|((with_reducible refine gD 25 ?_);refine gB (cs:=#[.int .i64 0, .slice none 0 0]) 76 ?_;intro gb599 hg w138 hbox hb;replace HO592:=bR HO592 hb;replace HO597:=bR HO597 hb;have BK599:=am (hbox);have GW599:=ye HB hg;replace HB:=yH HB hb;have NB548_599:=yl BK548 hg;have NB599_548:=yg BK548 hg;replace BK548:=yb BK548 hb;have NB593_599:=yl BK593 hg;have NB599_593:=yg BK593 hg;replace BK593:=yb BK593 hb;have GE599:=GW599;clear hb hbox hg;have hnb139:=NB599_548.out;have hnc139:=NB548_599.out;have hnb140:=NB599_593.out;have hnc140:=NB593_599.out;obtain ⟨hcz141_0,hcz141_1,hfz141_0,hfz141_1⟩:=yk2 BK599;obtain ⟨Ao142,co142,eo142⟩:=Kd.R_slice HO597.out;subst eo142;obtain ⟨hcz143_0,hcz143_1,hfz143_0,hfz143_1⟩:=yk2 BK593)|((with_reducible refine gC 57 ?_);refine gM (some 162) Try.func57 (args:=#[.agg #[.int .i64 t587, .int .i64 t588], .int .i64 t589, .slice Ao136 t590.length co136]) (spec_RegeneratePiece.calls kj14 t587 t588 t589 _ _ t590 t600 t601 t604 _ ?side1 ?side2 A108.out) ?_;(case side1=>refine (Kd.R_reads' (e:=85) (base:=w.heap.size) (ok:=fun k_=>True) (n:=t590.length) (c:=co136) ?_).2.2;exact D91);(case side2=>exact (Kd.R_reads' HO592.out).2.1);rintro e w144 ⟨v602,rfl,ho0,hb⟩;refine ⟨_,rfl,?_⟩;replace HO592:=am (Kd.R_below D91 hb);have HO603:=am (Kd.R_lower (Kd.R_new' ho0 (Kd.R_lt D88)) (pz (yW HB)));replace HO597:=am (Kd.R_elder' D88 (Kd.R_base ho0) hb);replace BK548:=am (qb (g:=gb548) (o:=.cells #[.int .i64 t543, .int .i64 t544] 30 (0,0)) (yF BK548) hb);replace BK593:=am (qb (g:=gb593) (o:=.cells #[.int .i64 t587, .int .i64 t588] 30 (0,0)) (yF BK593) hb);replace BK599:=am (qb (g:=gb599) (o:=.cells #[.int .i64 t594, .slice Ao142 t595.length co142] 76 (0,0)) D73 hb);replace HB:=yH HB hb;clear hb ho0)|((with_reducible refine gD 27 ?_);refine gB (cs:=#[.int .i64 0, .slice none 0 0]) 76 ?_;intro gb605 hg w145 hbox hb;replace HO592:=bR HO592 hb;replace HO597:=bR HO597 hb;replace HO603:=bR HO603 hb;have BK605:=am (hbox);have GW605:=ye HB hg;replace HB:=yH HB hb;have NB548_605:=yl BK548 hg;have NB605_548:=yg BK548 hg;replace BK548:=yb BK548 hb;have NB593_605:=yl BK593 hg;have NB605_593:=yg BK593 hg;replace BK593:=yb BK593 hb;have NB599_605:=yl BK599 hg;have NB605_599:=yg BK599 hg;replace BK599:=yb BK599 hb;have GE605:=GW605;clear hb hbox hg;have hnb146:=NB605_548.out;have hnc146:=NB548_605.out;have hnb147:=NB605_593.out;have hnc147:=NB593_605.out;have hnb148:=NB605_599.out;have hnc148:=NB599_605.out;obtain ⟨hcz149_0,hcz149_1,hfz149_0,hfz149_1⟩:=yk2 BK605;obtain ⟨Ao150,co150,eo150⟩:=Kd.R_slice HO603.out;subst eo150;obtain ⟨hcz151_0,hcz151_1,hfz151_0,hfz151_1⟩:=yk2 BK599))
    go_ret
    exact ⟨D3,yW HB⟩
   rw [if_neg c109] at H
   have c109b0:(t598 == t604)=false:=by simpa using c109
   (try (have c109b1:decide (t598=t604)=false:=by simpa using c109))
   (try (have c109b2:(t598 == t604)=false:=by simpa using c109))
   (try (have c109b3:¬ (t598=t604):=by simpa using c109))
   clear c109
   obtain rfl:=Option.some.inj H
   go_wp2_with (first|((with_reducible refine gC 56 ?_);refine gM (some 147) Try.func56 (args:=#[.slice A1 l1.length c1]) (spec_DrawRegeneratePiece.calls kj14 _ _ l1 t587 t588 t589 t590 _ (yc (Kd.C_below HR1.out HB.out)) HC1.out A106.out) ?_;rintro e w152 ⟨v591,rfl,ho0,hb⟩;refine ⟨_,rfl,?_⟩;have HO592:=am (Kd.R_lower ho0 (pz (yW HB)));replace BK548:=yb BK548 hb;replace HB:=yH HB hb;clear hb ho0)|((with_reducible refine gD 22 ?_);refine gB (cs:=#[.int .i64 0, .int .i64 0]) 30 ?_;intro gb593 hg w153 hbox hb;replace HO592:=bR HO592 hb;have BK593:=am (hbox);have GW593:=ye HB hg;replace HB:=yH HB hb;have NB548_593:=yl BK548 hg;have NB593_548:=yg BK548 hg;replace BK548:=yb BK548 hb;have GE593:=GW593;clear hb hbox hg;have hnb154:=NB593_548.out;have hnc154:=NB548_593.out;obtain ⟨hcz155_0,hcz155_1,hfz155_0,hfz155_1⟩:=yk2 BK593;obtain ⟨Ao156,co156,eo156⟩:=Kd.R_slice HO592.out;subst eo156)|((with_reducible refine gC 55 ?_);refine gM (some 155) Try.func55 (args:=#[.agg #[.int .i64 t587, .int .i64 t588], .int .i64 t589, .slice Ao156 t590.length co156]) (impl_RegeneratePiece.calls kj14 t587 t588 t589 _ _ t590 t594 t595 t598 _ ?side1 ?side2 A107.out) ?_;(case side1=>refine (Kd.R_reads' (e:=85) (base:=w.heap.size) (ok:=fun k_=>True) (n:=t590.length) (c:=co156) ?_).2.2;exact D26);(case side2=>exact (Kd.R_reads' HO592.out).2.1);rintro e w157 ⟨v596,rfl,ho0,hb⟩;refine ⟨_,rfl,?_⟩;replace HO592:=am (Kd.R_below D26 hb);have HO597:=am (Kd.R_lower ho0 (pz (yW HB)));replace BK548:=am (qb (g:=gb548) (o:=.cells #[.int .i64 t543, .int .i64 t544] 30 (0,0)) (yF BK548) hb);replace BK593:=am (qb (g:=gb593) (o:=.cells #[.int .i64 t587, .int .i64 t588] 30 (0,0)) D75 hb);replace HB:=yH HB hb;clear hb ho0)|((with_reducible refine gD 25 ?_);refine gB (cs:=#[.int .i64 0, .slice none 0 0]) 76 ?_;intro gb599 hg w158 hbox hb;replace HO592:=bR HO592 hb;replace HO597:=bR HO597 hb;have BK599:=am (hbox);have GW599:=ye HB hg;replace HB:=yH HB hb;have NB548_599:=yl BK548 hg;have NB599_548:=yg BK548 hg;replace BK548:=yb BK548 hb;have NB593_599:=yl BK593 hg;have NB599_593:=yg BK593 hg;replace BK593:=yb BK593 hb;have GE599:=GW599;clear hb hbox hg;have hnb159:=NB599_548.out;have hnc159:=NB548_599.out;have hnb160:=NB599_593.out;have hnc160:=NB593_599.out;obtain ⟨hcz161_0,hcz161_1,hfz161_0,hfz161_1⟩:=yk2 BK599;obtain ⟨Ao162,co162,eo162⟩:=Kd.R_slice HO597.out;subst eo162;obtain ⟨hcz163_0,hcz163_1,hfz163_0,hfz163_1⟩:=yk2 BK593)|((with_reducible refine gC 57 ?_);refine gM (some 162) Try.func57 (args:=#[.agg #[.int .i64 t587, .int .i64 t588], .int .i64 t589, .slice Ao156 t590.length co156]) (spec_RegeneratePiece.calls kj14 t587 t588 t589 _ _ t590 t600 t601 t604 _ ?side1 ?side2 A108.out) ?_;(case side1=>refine (Kd.R_reads' (e:=85) (base:=w.heap.size) (ok:=fun k_=>True) (n:=t590.length) (c:=co156) ?_).2.2;exact D90);(case side2=>exact (Kd.R_reads' HO592.out).2.1);rintro e w164 ⟨v602,rfl,ho0,hb⟩;refine ⟨_,rfl,?_⟩;replace HO592:=am (Kd.R_below D90 hb);have HO603:=am (Kd.R_lower (Kd.R_new' ho0 (Kd.R_lt D87)) (pz (yW HB)));replace HO597:=am (Kd.R_elder' D87 (Kd.R_base ho0) hb);replace BK548:=am (qb (g:=gb548) (o:=.cells #[.int .i64 t543, .int .i64 t544] 30 (0,0)) (yF BK548) hb);replace BK593:=am (qb (g:=gb593) (o:=.cells #[.int .i64 t587, .int .i64 t588] 30 (0,0)) (yF BK593) hb);replace BK599:=am (qb (g:=gb599) (o:=.cells #[.int .i64 t594, .slice Ao162 t595.length co162] 76 (0,0)) D73 hb);replace HB:=yH HB hb;clear hb ho0)|((with_reducible refine gD 27 ?_);refine gB (cs:=#[.int .i64 0, .slice none 0 0]) 76 ?_;intro gb605 hg w165 hbox hb;replace HO592:=bR HO592 hb;replace HO597:=bR HO597 hb;replace HO603:=bR HO603 hb;have BK605:=am (hbox);have GW605:=ye HB hg;replace HB:=yH HB hb;have NB548_605:=yl BK548 hg;have NB605_548:=yg BK548 hg;replace BK548:=yb BK548 hb;have NB593_605:=yl BK593 hg;have NB605_593:=yg BK593 hg;replace BK593:=yb BK593 hb;have NB599_605:=yl BK599 hg;have NB605_599:=yg BK599 hg;replace BK599:=yb BK599 hb;have GE605:=GW605;clear hb hbox hg;have hnb166:=NB605_548.out;have hnc166:=NB548_605.out;have hnb167:=NB605_593.out;have hnc167:=NB593_605.out;have hnb168:=NB605_599.out;have hnc168:=NB599_605.out;obtain ⟨hcz169_0,hcz169_1,hfz169_0,hfz169_1⟩:=yk2 BK605;obtain ⟨Ao170,co170,eo170⟩:=Kd.R_slice HO603.out;subst eo170))
   go_ret
   exact ⟨D3,yW HB⟩

/-- THE ONE PURE STATEMENT of laws_FnRegenerated: yours. -/
def laws_FnRegenerated.Pure:Prop:=∀ (l0:List Int) (l1:List Int),l0.length≤maxLen→l0.length*1≤140737488351232→(∀ x ∈ l0,(Lit.int .u8 x).wf=true)→l1.length≤maxLen→l1.length*1≤140737488351232→(∀ x ∈ l1,(Lit.int .u8 x).wf=true)→∃ k,laws_FnRegenerated.f k l0 l1=some true
open Go.RowKit Go.Proofs.YteflgifmdojahaaW.PrintWords Go.Proofs.YteflgifmdojahaaW.PrintLast Go.Proofs.YteflgifmdojahaaW.PrintMore
end Go.Proofs.Yteflgifmdojahaa.PFnRegenerated
-- SQUEEZED
