import Derived.Test.YteflgifmdojahaaVFnMsrB
import Derived.Test.YteflgifmdojahaaPFnMsrx0
import Derived.Test.YteflgifmdojahaaPFnMsrx1
import Derived.Test.YteflgifmdojahaaPFnMsrx2
import Derived.Test.YteflgifmdojahaaPFnMsrx3
import Derived.Test.YteflgifmdojahaaPFnMsrx4
import Derived.Test.YteflgifmdojahaaPFnMsrx5
import Derived.Test.YteflgifmdojahaaPFnMsrx7
import Derived.Test.YteflgifmdojahaaPFnMsrx6
namespace Go.Proofs.Yteflgifmdojahaa.PFnMsr
open Go.RowKit Go.Proofs.YteflgifmdojahaaW.PrintWords Go.Proofs.YteflgifmdojahaaW.PrintLast Go.Proofs.YteflgifmdojahaaW.PrintMore Go.Proofs.Yteflgifmdojahaa.KitS
attribute [local go_sem] max2_int min2_int max_two min_two max_three min_three max_four min_four
set_option linter.unusedVariables false
set_option maxHeartbeats 8000000
set_option maxRecDepth 100000
set_option linter.unusedSimpArgs false
mutual
def laws_FnMsr.j0:Nat→List Int→List Int→List (S76)→Bool→Int→Int→Int→Bool→Int→Int→Option (Bool)
 | 0,_,_,_,_,_,_,_,_,_,_=>none
 | k+1,x1,x6,x7,x8,x11,x12,x13,x87,x547000,x547001=>if x87=true then (some false) else (if x8=true then ((laws_someOf.f k x547000 x547001 x1).bind fun t563=>(laws_FnMsr.l0 k x1 x6 x7 x11 x12 x13 ([]:List (S76)) t563 (t563.length:Int) 0 x547000 x547001)) else ((spec_DrawDecodeMsr.f k x1).bind fun bt607=>((impl_DecodeMsr.f k bt607.1 bt607.2.1 bt607.2.2).bind fun bt613=>((spec_DecodeMsr.f k bt607.1 bt607.2.1 bt607.2.2).bind fun bt617=>(if (bt613.2 == bt617.2)=true then ((laws_sameBytes.f bt613.1 bt617.1).bind fun t621=>(some t621)) else (some false))))))
def laws_FnMsr.l0:Nat→List Int→List Int→List (S76)→Int→Int→Int→List (S76)→List Int→Int→Int→Int→Int→Option (Bool)
 | 0,_,_,_,_,_,_,_,_,_,_,_,_=>none
 | k+1,x1,x6,x7,x11,x12,x13,x15,x94,x95,x96,x547000,x547001=>if x96 < x95 then (if 0≤x96 then (if x96 < (x94.length:Int) then (if 0≤(rd x94 x96) then (if (rd x94 x96) < (x7.length:Int) then (if x15.length < 4398046511104 then (laws_FnMsr.l0 k x1 x6 x7 x11 x12 x13 (x15 ++ [(⟨(rd_T76 x7 (rd x94 x96)).f0,(rd_T76 x7 (rd x94 x96)).f1⟩:S76)]) x94 x95 (wrap64 (x96+1)) x547000 x547001) else (none)) else (none)) else (none)) else (none)) else (none)) else ((impl_DecodeMsr.f k x547000 x547001 x15).bind fun bt571=>((impl_MessageOf.f k x547000 x547001 x6).bind fun bt575=>(if bt571.2=true then ((laws_sameBytes.f bt571.1 x6).bind fun t580=>(if t580=true then (if bt575.2=true then (if (bt575.1.length:Int)=(wrap64 (2*x11)) then (if (wrap64 (x547001*x11))=x13 then (if x12=(wrap64 (2*x11)) then (laws_FnMsr.j2 k x1 x7 x12 ((x6.length:Int) != x13) x547000 x547001 bt575.1) else (laws_FnMsr.j2 k x1 x7 x12 true x547000 x547001 bt575.1)) else (laws_FnMsr.j2 k x1 x7 x12 true x547000 x547001 bt575.1)) else (laws_FnMsr.j2 k x1 x7 x12 true x547000 x547001 bt575.1)) else (laws_FnMsr.j2 k x1 x7 x12 true x547000 x547001 bt575.1)) else (laws_FnMsr.j2 k x1 x7 x12 true x547000 x547001 bt575.1))) else (laws_FnMsr.j2 k x1 x7 x12 true x547000 x547001 bt575.1))))
def laws_FnMsr.j2:Nat→List Int→List (S76)→Int→Bool→Int→Int→List (List Int)→Option (Bool)
 | 0,_,_,_,_,_,_,_=>none
 | k+1,x1,x7,x12,x159,x547000,x547001,x580000=>if x159=true then (some false) else (laws_FnMsr.l1 k x1 x12 x7 (x7.length:Int) 0 x547000 x547001 x580000)
def laws_FnMsr.l1:Nat→List Int→Int→List (S76)→Int→Int→Int→Int→List (List Int)→Option (Bool)
 | 0,_,_,_,_,_,_,_,_=>none
 | k+1,x1,x12,x160,x161,x162,x547000,x547001,x580000=>if x162 < x161 then (if 0≤x162 then (if x162 < (x160.length:Int) then ((impl_MsrRow.f k x547000 x547001 x162).bind fun bt583=>(if bt583.2=true then (if (bt583.1.length:Int)=x12 then (laws_FnMsr.l2 k x1 x12 bt583.1 x160 x161 x162 ((rd_T76 x160 x162).f1) (((rd_T76 x160 x162).f1).length:Int) 0 x547000 x547001 x580000) else (some false)) else (some false))) else (none)) else (none)) else ((spec_DrawDecodeMsr.f k x1).bind fun bt592=>((impl_DecodeMsr.f k bt592.1 bt592.2.1 bt592.2.2).bind fun bt598=>((spec_DecodeMsr.f k bt592.1 bt592.2.1 bt592.2.2).bind fun bt602=>(if (bt598.2 == bt602.2)=true then ((laws_sameBytes.f bt598.1 bt602.1).bind fun t606=>(some t606)) else (some false)))))
def laws_FnMsr.l2:Nat→List Int→Int→List Int→List (S76)→Int→Int→List Int→Int→Int→Int→Int→List (List Int)→Option (Bool)
 | 0,_,_,_,_,_,_,_,_,_,_,_,_=>none
 | k+1,x1,x12,x24,x160,x161,x162,x182,x183,x184,x547000,x547001,x580000=>if x184 < x183 then (if 0≤x184 then (if x184 < (x182.length:Int) then (laws_FnMsr.l3 k x1 x12 x24 x184 (rd x182 x184) 0 x160 x161 x162 x182 x183 x184 (x24.length:Int) 0 x547000 x547001 x580000) else (none)) else (none)) else (laws_FnMsr.l1 k x1 x12 x160 x161 (wrap64 (x162+1)) x547000 x547001 x580000)
def laws_FnMsr.l3:Nat→List Int→Int→List Int→Int→Int→Int→List (S76)→Int→Int→List Int→Int→Int→Int→Int→Int→Int→List (List Int)→Option (Bool)
 | 0,_,_,_,_,_,_,_,_,_,_,_,_,_,_,_,_,_=>none
 | k+1,x1,x12,x24,x26,x27,x28,x160,x161,x162,x182,x183,x184,x190,x191,x547000,x547001,x580000=>if x191 < x190 then (if 0≤x191 then (if x191 < (x24.length:Int) then (if x191 < (x580000.length:Int) then (if 0≤x26 then (if x26 < ((rd_L3 x580000 x191).length:Int) then ((impl_Times.f k (rd x24 x191) (rd (rd_L3 x580000 x191) x26)).bind fun t591=>(laws_FnMsr.l3 k x1 x12 x24 x26 x27 (Go.bits .xor .u8 x28 t591) x160 x161 x162 x182 x183 x184 x190 (wrap64 (x191+1)) x547000 x547001 x580000)) else (none)) else (none)) else (none)) else (none)) else (none)) else (if x28=x27 then (laws_FnMsr.l2 k x1 x12 x24 x160 x161 x162 x182 x183 (wrap64 (x184+1)) x547000 x547001 x580000) else (some false))
end
def laws_FnMsr.f (k:Nat) (l0:List Int) (l1:List Int):Option (Bool):=if (wrap64 ((l0.length:Int)+(l1.length:Int))) > 1048576 then (some true) else ((spec_DrawEncodeMsr.f k l0).bind fun bt541=>((impl_EncodeMsr.f k bt541.1 bt541.2.1 bt541.2.2).bind fun bt547=>((spec_EncodeMsr.f k bt541.1 bt541.2.1 bt541.2.2).bind fun bt551=>((impl_MsrSizes.f bt541.1 bt541.2.1).bind fun bt555=>(if (bt547.2 != bt551.2)=true then (laws_FnMsr.j0 k l1 bt541.2.2 bt547.1 bt547.2 bt555.1 bt555.2.1 bt555.2.2.1 true bt541.1 bt541.2.1) else ((laws_samePieces.f k bt547.1 bt551.1).bind fun t559=>(if t559=true then ((impl_GoodMsr.f bt541.1 bt541.2.1).bind fun t560=>((spec_GoodMsr.f bt541.1 bt541.2.1).bind fun t561=>(if (t560 != t561)=true then (laws_FnMsr.j0 k l1 bt541.2.2 bt547.1 bt547.2 bt555.1 bt555.2.1 bt555.2.2.1 true bt541.1 bt541.2.1) else ((spec_GoodMsr.f bt541.1 bt541.2.1).bind fun t562=>(laws_FnMsr.j0 k l1 bt541.2.2 bt547.1 bt547.2 bt555.1 bt555.2.1 bt555.2.2.1 (bt555.2.2.2 != t562) bt541.1 bt541.2.1))))) else (laws_FnMsr.j0 k l1 bt541.2.2 bt547.1 bt547.2 bt555.1 bt555.2.1 bt555.2.2.1 true bt541.1 bt541.2.1))))))))
theorem laws_FnMsr.mono_l:∀ k,(∀ y0 y1 y2 y3 y4 y5 y6 y7 y8 y9,LeO (laws_FnMsr.j0 k y0 y1 y2 y3 y4 y5 y6 y7 y8 y9) (laws_FnMsr.j0 (k+1) y0 y1 y2 y3 y4 y5 y6 y7 y8 y9))∧(∀ y0 y1 y2 y3 y4 y5 y6 y7 y8 y9 y10 y11,LeO (laws_FnMsr.l0 k y0 y1 y2 y3 y4 y5 y6 y7 y8 y9 y10 y11) (laws_FnMsr.l0 (k+1) y0 y1 y2 y3 y4 y5 y6 y7 y8 y9 y10 y11))∧(∀ y0 y1 y2 y3 y4 y5 y6,LeO (laws_FnMsr.j2 k y0 y1 y2 y3 y4 y5 y6) (laws_FnMsr.j2 (k+1) y0 y1 y2 y3 y4 y5 y6))∧(∀ y0 y1 y2 y3 y4 y5 y6 y7,LeO (laws_FnMsr.l1 k y0 y1 y2 y3 y4 y5 y6 y7) (laws_FnMsr.l1 (k+1) y0 y1 y2 y3 y4 y5 y6 y7))∧(∀ y0 y1 y2 y3 y4 y5 y6 y7 y8 y9 y10 y11,LeO (laws_FnMsr.l2 k y0 y1 y2 y3 y4 y5 y6 y7 y8 y9 y10 y11) (laws_FnMsr.l2 (k+1) y0 y1 y2 y3 y4 y5 y6 y7 y8 y9 y10 y11))∧(∀ y0 y1 y2 y3 y4 y5 y6 y7 y8 y9 y10 y11 y12 y13 y14 y15 y16,LeO (laws_FnMsr.l3 k y0 y1 y2 y3 y4 y5 y6 y7 y8 y9 y10 y11 y12 y13 y14 y15 y16) (laws_FnMsr.l3 (k+1) y0 y1 y2 y3 y4 y5 y6 y7 y8 y9 y10 y11 y12 y13 y14 y15 y16))
 | 0=>⟨fun _ _ _ _ _ _ _ _ _ _ r h=>by simp [laws_FnMsr.j0] at h,fun _ _ _ _ _ _ _ _ _ _ _ _ r h=>by simp [laws_FnMsr.l0] at h,fun _ _ _ _ _ _ _ r h=>by simp [laws_FnMsr.j2] at h,fun _ _ _ _ _ _ _ _ r h=>by simp [laws_FnMsr.l1] at h,fun _ _ _ _ _ _ _ _ _ _ _ _ r h=>by simp [laws_FnMsr.l2] at h,fun _ _ _ _ _ _ _ _ _ _ _ _ _ _ _ _ _ r h=>by simp [laws_FnMsr.l3] at h⟩
 | k+1=>by
  obtain ⟨ih0,ih1,ih2,ih3,ih4,ih5⟩:=laws_FnMsr.mono_l k
  refine ⟨?_,?_,?_,?_,?_,?_⟩
  ·intro y0 y1 y2 y3 y4 y5 y6 y7 y8 y9
   unfold laws_FnMsr.j0
   exact mm
  ·intro y0 y1 y2 y3 y4 y5 y6 y7 y8 y9 y10 y11
   unfold laws_FnMsr.l0
   exact mm
  ·intro y0 y1 y2 y3 y4 y5 y6
   unfold laws_FnMsr.j2
   exact mm
  ·intro y0 y1 y2 y3 y4 y5 y6 y7
   unfold laws_FnMsr.l1
   exact mm
  ·intro y0 y1 y2 y3 y4 y5 y6 y7 y8 y9 y10 y11
   unfold laws_FnMsr.l2
   exact mm
  intro y0 y1 y2 y3 y4 y5 y6 y7 y8 y9 y10 y11 y12 y13 y14 y15 y16
  unfold laws_FnMsr.l3
  exact mm
theorem laws_FnMsr.mono:∀ a0 a1 k,LeO (laws_FnMsr.f k a0 a1) (laws_FnMsr.f (k+1) a0 a1):=by
 intro a0 a1 k
 obtain ⟨ih0,ih1,ih2,ih3,ih4,ih5⟩:=laws_FnMsr.mono_l k
 unfold laws_FnMsr.f
 exact mm
def laws_FnMsr.T7:Bool × List (List Nat × List Nat):=(true,[([],[]),([],[]),([0,1],[0,1]),([2],[2]),([3],[3]),([3],[3]),([4,5,3,3],[3,4,5]),([6,3],[3,6]),([3,7],[3,7]),([8,6],[8]),([9],[9]),([10,9,9],[9,10]),([9],[9]),([12,11,9],[9,12]),([11,13,9],[9,11,13]),([9,14],[9,14]),([15,13],[15]),([16],[16]),([16],[16]),([18,16,16],[16,18]),([17,19,16],[16,17,19]),([16,20],[16,20])])
def laws_FnMsr.B7:List Nat:=[0,0,3,7,15,15,63,127,255,511,1023,2047,1023,8191,16383,32767,65535,131071,131071,393215,1048575,2097151]
theorem laws_FnMsr.tab7:rtab .any (opsOf Try.f7 7)=laws_FnMsr.T7:=by kernel_rfl
theorem laws_FnMsr.bits7:waitsOk laws_FnMsr.T7.2 laws_FnMsr.B7=true:=by kernel_rfl
def laws_FnMsr.T33:Bool × List (List Nat × List Nat):=(true,[([],[]),([],[]),([],[]),([1,2],[1,2]),([3],[3]),([],[]),([5],[5]),([],[]),([6,7],[6,7]),([8],[8]),([],[]),([9,10],[9,10]),([11],[11]),([4,12],[4,12]),([0,13],[0,13]),([14,13,0,1,2,3,4,5,6,7,8,9,10,11,12,13,14],[0,14])])
def laws_FnMsr.B33:List Nat:=[0,0,0,6,14,0,32,0,224,480,0,2016,4064,8190,16383,32767]
theorem laws_FnMsr.tab33:rtab .any (opsOf Try.f7 33)=laws_FnMsr.T33:=by kernel_rfl
theorem laws_FnMsr.bits33:waitsOk laws_FnMsr.T33.2 laws_FnMsr.B33=true:=by kernel_rfl
theorem laws_FnMsr.calls (k:Nat) (A0:Option Addr) (c0:Nat) (l0:List Int) (A1:Option Addr) (c1:Nat) (l1:List Int) (r:Bool) (w:World) (hr0:Kd.C (Kd.int .u8) w A0 l0.length l0) (hc0:l0.length≤c0) (hr1:Kd.C (Kd.int .u8) w A1 l1.length l1) (hc1:l1.length≤c1) (h:laws_FnMsr.f k l0 l1=some r) :
  Calls Try.prog 7 #[.slice A0 l0.length c0, .slice A1 l1.length c1] w fun e w'=>e = .returned (.bool r)∧Below w.heap.size w w':=by
 have hu30:=Try.underlying30
 have hu76:=Try.underlying76
 have hu27:=Try.underlying27
 have HR0:=am hr0
 have HC0:=am hc0
 clear hr0 hc0
 have HR1:=am hr1
 have HC1:=am hc1
 clear hr1 hc1
 have HB:=am (Below.refl w.heap.size w)
 have H:=h
 unfold laws_FnMsr.f at H
 clear h
 by_cases c3:(wrap64 ((l0.length:Int)+(l1.length:Int))) > 1048576
 ·rw [if_pos c3] at H
  have c3b0:decide (1048576 < (wrap64 ((l0.length:Int)+(l1.length:Int))))=true:=decide_eq_true c3
  clear c3
  obtain rfl:=Option.some.inj H
  go_enter Try.func7,Try.ntmps7
  go_wp2
  go_ret
  exact ⟨D2,yW HB⟩
 rw [if_neg c3] at H
 have c3b0:decide (1048576 < (wrap64 ((l0.length:Int)+(l1.length:Int))))=false:=decide_eq_false c3
 clear c3
 obtain ⟨⟨t541,t542,t543⟩,A4,H⟩:=yo H
 try dsimp only at H
 obtain ⟨⟨t547,t550⟩,A5,H⟩:=yo H
 try dsimp only at H
 obtain ⟨⟨t551,t554⟩,A6,H⟩:=yo H
 try dsimp only at H
 obtain ⟨⟨t555,t556,t557,t558⟩,A7,H⟩:=yo H
 try dsimp only at H
 have HC8:=am H
 clear H
 go_enter Try.func7,Try.ntmps7
 go_upto_region 7 with (first|((with_reducible refine gC 43 ?_);refine gM (some 44) Try.func43 (args:=#[.slice A0 l0.length c0]) (spec_DrawEncodeMsr.calls k _ _ l0 t541 t542 t543 _ (yc HR0.out) HC0.out A4.out) ?_;rintro e w9 ⟨v544,rfl,ho0,hb⟩;refine ⟨_,rfl,?_⟩;have HO545:=am (Kd.R_lower ho0 (pz (yW HB)));replace HB:=yH HB hb;clear hb ho0)|((with_reducible refine gD 5 ?_);(try (refine gate_guard D15 ?_;dsimp only));refine gB (cs:=#[.int .i64 0, .int .i64 0]) 30 ?_;intro gb546 hg w10 hbox hb;replace HO545:=bR HO545 hb;have BK546:=am (hbox);have GW546:=ye HB hg;replace HB:=yH HB hb;have GE546:=GW546;clear hb hbox hg;obtain ⟨hcz11_0,hcz11_1,hfz11_0,hfz11_1⟩:=yk2 BK546;obtain ⟨Ao12,co12,eo12⟩:=Kd.R_slice HO545.out;subst eo12)|((with_reducible refine gC 19 ?_);refine gM (some 50) Try.func19 (args:=#[.agg #[.int .i64 t541, .int .i64 t542], .slice Ao12 t543.length co12]) (impl_EncodeMsr.calls k t541 t542 _ _ t543 t547 t550 _ ?side1 ?side2 A5.out) ?_;(case side1=>refine (Kd.R_reads' (e:=5) (base:=w.heap.size) (ok:=fun k_=>True) (n:=t543.length) (c:=co12) ?_).2.2;exact D49);(case side2=>exact (Kd.R_reads' HO545.out).2.1);rintro e w13 ⟨v548,rfl,ho0,hb⟩;refine ⟨_,rfl,?_⟩;have HO549:=am (Kd.N_lower (Kd.N_mono (ok':=fun k_=>some k_ ≠ (.slice Ao12 t543.length co12:Value).ownBlock∧k_ ≠ gb546) (Kd.S_N (Kd.S_bound ho0)) (fun k_ hk_=>⟨(Kd.fresh' (Kd.R_lt D49) k_ hk_.2.1),(Kd.freshB (g:=gb546) (o:=.cells #[.int .i64 t541, .int .i64 t542] 30 (0,0)) D90 k_ hk_.2.1)⟩)) (pz (yW HB)));replace HO545:=am (Kd.R_below D49 hb);replace BK546:=am (qb (g:=gb546) (o:=.cells #[.int .i64 t541, .int .i64 t542] 30 (0,0)) D90 hb);replace HB:=yH HB hb;clear hb ho0;obtain ⟨hcz14_0,hcz14_1,hfz14_0,hfz14_1⟩:=yk2 BK546)|((with_reducible refine gC 18 ?_);refine gM (some 56) Try.func18 (args:=#[.agg #[.int .i64 t541, .int .i64 t542], .slice Ao12 t543.length co12]) (spec_EncodeMsr.calls k t541 t542 _ _ t543 t551 t554 _ (yc (Kd.R_reads' HO545.out).2.2) (Kd.R_reads' HO545.out).2.1 A6.out) ?_;rintro e w15 ⟨v552,rfl,ho0,hb⟩;refine ⟨_,rfl,?_⟩;have HO553:=am (Kd.N_lower (Kd.N_mono (ok':=fun k_=>some k_ ≠ (.slice Ao12 t543.length co12:Value).ownBlock∧some k_ ≠ (v548:Value).ownBlock∧k_ ≠ gb546) (Kd.S_N (Kd.S_bound ho0)) (fun k_ hk_=>⟨(Kd.fresh' (Kd.R_lt (yR HO545)) k_ hk_.2.1),(Kd.fresh' (Kd.N_lt (yN HO549)) k_ hk_.2.1),(yz BK546 k_ hk_.2.1)⟩)) (pz (yW HB)));replace HO545:=bR HO545 hb;replace HO549:=eN HO549 D26 hb;replace BK546:=yb BK546 hb;replace HB:=yH HB hb;clear hb ho0;obtain ⟨hcz16_0,hcz16_1,hfz16_0,hfz16_1⟩:=yk2 BK546)|((with_reducible refine gC 44 ?_);refine gM (some 61) Try.func44 (args:=#[.agg #[.int .i64 t541, .int .i64 t542]]) (impl_MsrSizes.calls t541 t542 t555 t556 t557 t558 _ A7.out) ?_;rintro e w17 ⟨rfl,hb⟩;refine ⟨_,rfl,?_⟩;replace HO545:=bR HO545 hb;replace HO549:=bN HO549 hb;replace HO553:=bN HO553 hb;replace BK546:=yb BK546 hb;replace HB:=yH HB hb;clear hb))
 (try simp only [Act.put,q1,q2,q3])
 go_cut [87] (fun v87 wc=>∃ (kq:Nat) (x87_7:Bool),v87 = .bool x87_7∧Aside0 (laws_FnMsr.j0 kq l1 t543 t547 t550 t555 t556 t557 x87_7 t541 t542=some r)∧Aside0 (kq≤k)∧Aside0 (Kd.R (Kd.int .u8) 5 wc w.heap.size (fun _=>True) (.slice Ao12 t543.length co12) t543)∧Aside0 (Kd.N k76 76 wc w.heap.size (fun k_=>some k_ ≠ ((.slice Ao12 t543.length co12):Value).ownBlock∧k_ ≠ gb546) v548 t547)∧Aside0 (wc.heap[gb546]? = some (.cells #[.int .i64 t541, .int .i64 t542] 30 (0,0)))∧Aside0 (Below w.heap.size w wc))
 case first=>as_aux_lemma=>
  have H:=HC8.out
  clear HC8
  by_cases c18:(t550 != t554)=true
  ·rw [if_pos c18] at H
   have c18b0:(t550 != t554)=true:=c18
   (try (have c18b1:decide (t550=t554)=false:=by simpa using c18))
   (try (have c18b2:(t550 == t554)=false:=by simpa using c18))
   (try (have c18b3:¬ (t550=t554):=by simpa using c18))
   clear c18
   (first|rw [c18b0]|(simp only [i64_w,i32_w];rw [c18b0])|skip)
   have H':=am H
   clear H
   try go_wp2
   replace HO545:=am (Kd.R_drew HO545.out)
   replace HO549:=am (Kd.N_drew HO549.out)
   replace HO553:=am (Kd.N_drew HO553.out)
   replace BK546:=am (qd BK546.out)
   replace HB:=am (pd HB.out)
   refine rS (n:=22) (S:=fun w'=>True) (ds:=[]) [(0,66),(1,67),(2,68),(3,69),(4,70),(5,71),(6,72),(7,73),(8,74),(9,75),(10,76),(11,77),(12,78),(13,79),(14,80),(15,81),(16,82),(17,83),(18,84),(19,85),(20,86),(21,87)] D5 rfl laws_FnMsr.tab7 laws_FnMsr.bits7 trivial (fun hHeld HT_ HW_=>?_)
   generalize w17.drew=w19 at HO545 HO549 HO553 BK546 HB hHeld ⊢
   refine rR ?_
   refine rD HT_ D5 ?_
   try go_wp2
   go_meet
   case rel=>exact ⟨_,(true),D1,H',⟨D54⟩,⟨yR HO545⟩,⟨D72⟩,⟨yB BK546⟩,⟨yW HB⟩⟩
  rw [if_neg c18] at H
  have c18b0:(t550 != t554)=false:=by simpa using c18
  (try (have c18b1:decide (t550=t554)=true:=by simpa using c18))
  (try (have c18b2:(t550 == t554)=true:=by simpa using c18))
  clear c18
  (first|rw [c18b0]|(simp only [i64_w,i32_w];rw [c18b0])|skip)
  obtain ⟨t559,A20,H⟩:=yo H
  by_cases c21:t559=true
  ·subst c21
   replace H:=yt H
   obtain ⟨t560,A22,H⟩:=yo H
   obtain ⟨t561,A23,H⟩:=yo H
   by_cases c24:(t560 != t561)=true
   ·rw [if_pos c24] at H
    have c24b0:(t560 != t561)=true:=c24
    (try (have c24b1:decide (t560=t561)=false:=by simpa using c24))
    (try (have c24b2:(t560 == t561)=false:=by simpa using c24))
    (try (have c24b3:¬ (t560=t561):=by simpa using c24))
    clear c24
    have H':=am H
    clear H
    try go_wp2
    replace HO545:=am (Kd.R_drew HO545.out)
    replace HO549:=am (Kd.N_drew HO549.out)
    replace HO553:=am (Kd.N_drew HO553.out)
    replace BK546:=am (qd BK546.out)
    replace HB:=am (pd HB.out)
    obtain ⟨Ao26,co26,eo26⟩:=Kd.N_slice HO549.out
    (first|subst eo26|(injection eo26 with f1_ f2_ f3_;have f4_:=f1_.symm;have f5_:=f3_.symm;clear f1_ f2_ f3_;subst f4_;subst f5_))
    obtain ⟨Ao27,co27,eo27⟩:=Kd.N_slice HO553.out
    (first|subst eo27|(injection eo27 with f1_ f2_ f3_;have f4_:=f1_.symm;have f5_:=f3_.symm;clear f1_ f2_ f3_;subst f4_;subst f5_))
    refine rS (n:=22) (S:=fun w'=>w'.cell? ⟨gb546,0,none⟩=some (.int .i64 t541)∧w'.cell? ⟨gb546,1,none⟩=some (.int .i64 t542)) (ds:=[]) [(0,66),(1,67),(2,68),(3,69),(4,70),(5,71),(6,0),(7,73),(8,74),(9,75),(10,76),(12,78),(11,0),(13,0),(14,80),(15,81),(16,82),(17,83),(18,84),(19,85),(20,86),(21,87)] D5 rfl laws_FnMsr.tab7 laws_FnMsr.bits7 ⟨yk BK546 0,yk BK546 1⟩ (fun hHeld HT_ HW_=>?_)
    generalize w17.drew=w25 at HO545 HO549 HO553 BK546 HB hHeld ⊢
    refine rR ?_
    refine rO (N:=some 72) HT_ rfl rfl D5 D8 (fun K hK=>?_)
    refine goes_ Try.func45 D5 rfl #[.slice Ao26 t547.length co26, .slice Ao27 t551.length co27] D15 rfl rfl D10 ?_
    with_reducible refine (laws_samePieces.calls k _ _ t547 _ _ t551 true _ (yc (Kd.N_reads' HO549.out).2.2) (Kd.N_reads' HO549.out).2.1 (yc (Kd.N_reads' HO553.out).2.2) (Kd.N_reads' HO553.out).2.1 A20.out).mono ?_
    rintro e w' ⟨rfl,⟨nd,rfl⟩⟩
    refine ⟨_,rfl,?_⟩
    refine hK.out _ _ ⟨yk BK546 0,yk BK546 1⟩ (fun hHeld=>?_)
    clear hK K
    refine rN (nA 72) ?_
    refine rR ?_
    refine rO (N:=some 77) HT_ rfl rfl D5 D8 (fun K hK=>?_)
    refine goes_ Try.func46 D5 rfl #[.agg #[.int .i64 t541, .int .i64 t542]] D15 rfl rfl D10 ?_
    with_reducible refine (impl_GoodMsr.calls t541 t542 t560 _ A22.out).mono ?_
    rintro e w28 ⟨rfl,hb⟩
    refine ⟨_,rfl,?_⟩
    replace HO545:=bR HO545 hb
    replace HO549:=bN HO549 hb
    replace HO553:=bN HO553 hb
    replace BK546:=yb BK546 hb
    replace HB:=yH HB hb
    (try clear hb)
    (try clear hb2)
    (try clear hk)
    (try clear hi)
    refine hK.out _ _ ⟨yk BK546 0,yk BK546 1⟩ (fun hHeld=>?_)
    clear hK K
    refine rN (nA 77) ?_
    refine rO (N:=some 79) HT_ rfl rfl D5 D8 (fun K hK=>?_)
    refine goes_ Try.func47 D5 rfl #[.agg #[.int .i64 t541, .int .i64 t542]] D15 rfl rfl D10 ?_
    with_reducible refine (spec_GoodMsr.calls t541 t542 t561 _ A23.out).mono ?_
    rintro e w29 ⟨rfl,hb⟩
    refine ⟨_,rfl,?_⟩
    replace HO545:=bR HO545 hb
    replace HO549:=bN HO549 hb
    replace HO553:=bN HO553 hb
    replace BK546:=yb BK546 hb
    replace HB:=yH HB hb
    (try clear hb)
    (try clear hb2)
    (try clear hk)
    (try clear hi)
    refine hK.out _ _ ⟨yk BK546 0,yk BK546 1⟩ (fun hHeld=>?_)
    clear hK K
    refine rN (nA 79) ?_
    refine rR ?_
    refine rD HT_ D5 ?_
    try go_wp2
    go_meet
    case rel=>exact ⟨_,(true),D1,H',⟨D54⟩,⟨yR HO545⟩,⟨D72⟩,⟨yB BK546⟩,⟨yW HB⟩⟩
   rw [if_neg c24] at H
   have c24b0:(t560 != t561)=false:=by simpa using c24
   (try (have c24b1:decide (t560=t561)=true:=by simpa using c24))
   (try (have c24b2:(t560 == t561)=true:=by simpa using c24))
   clear c24
   obtain ⟨t562,A30,H⟩:=yo H
   have H':=am H
   clear H
   try go_wp2
   replace HO545:=am (Kd.R_drew HO545.out)
   replace HO549:=am (Kd.N_drew HO549.out)
   replace HO553:=am (Kd.N_drew HO553.out)
   replace BK546:=am (qd BK546.out)
   replace HB:=am (pd HB.out)
   obtain ⟨Ao32,co32,eo32⟩:=Kd.N_slice HO549.out
   (first|subst eo32|(injection eo32 with f1_ f2_ f3_;have f4_:=f1_.symm;have f5_:=f3_.symm;clear f1_ f2_ f3_;subst f4_;subst f5_))
   obtain ⟨Ao33,co33,eo33⟩:=Kd.N_slice HO553.out
   (first|subst eo33|(injection eo33 with f1_ f2_ f3_;have f4_:=f1_.symm;have f5_:=f3_.symm;clear f1_ f2_ f3_;subst f4_;subst f5_))
   refine rS (n:=22) (S:=fun w'=>w'.cell? ⟨gb546,0,none⟩=some (.int .i64 t541)∧w'.cell? ⟨gb546,1,none⟩=some (.int .i64 t542)) (ds:=[]) [(0,66),(1,67),(2,68),(3,69),(4,70),(5,71),(6,0),(7,73),(8,74),(9,75),(10,76),(12,78),(11,0),(13,0),(14,80),(15,81),(16,82),(17,83),(18,84),(19,0),(20,86),(21,87)] D5 rfl laws_FnMsr.tab7 laws_FnMsr.bits7 ⟨yk BK546 0,yk BK546 1⟩ (fun hHeld HT_ HW_=>?_)
   generalize w17.drew=w31 at HO545 HO549 HO553 BK546 HB hHeld ⊢
   refine rR ?_
   refine rO (N:=some 72) HT_ rfl rfl D5 D8 (fun K hK=>?_)
   refine goes_ Try.func45 D5 rfl #[.slice Ao32 t547.length co32, .slice Ao33 t551.length co33] D15 rfl rfl D10 ?_
   with_reducible refine (laws_samePieces.calls k _ _ t547 _ _ t551 true _ (yc (Kd.N_reads' HO549.out).2.2) (Kd.N_reads' HO549.out).2.1 (yc (Kd.N_reads' HO553.out).2.2) (Kd.N_reads' HO553.out).2.1 A20.out).mono ?_
   rintro e w' ⟨rfl,⟨nd,rfl⟩⟩
   refine ⟨_,rfl,?_⟩
   refine hK.out _ _ ⟨yk BK546 0,yk BK546 1⟩ (fun hHeld=>?_)
   clear hK K
   refine rN (nA 72) ?_
   refine rR ?_
   refine rO (N:=some 77) HT_ rfl rfl D5 D8 (fun K hK=>?_)
   refine goes_ Try.func46 D5 rfl #[.agg #[.int .i64 t541, .int .i64 t542]] D15 rfl rfl D10 ?_
   with_reducible refine (impl_GoodMsr.calls t541 t542 t560 _ A22.out).mono ?_
   rintro e w34 ⟨rfl,hb⟩
   refine ⟨_,rfl,?_⟩
   replace HO545:=bR HO545 hb
   replace HO549:=bN HO549 hb
   replace HO553:=bN HO553 hb
   replace BK546:=yb BK546 hb
   replace HB:=yH HB hb
   (try clear hb)
   (try clear hb2)
   (try clear hk)
   (try clear hi)
   refine hK.out _ _ ⟨yk BK546 0,yk BK546 1⟩ (fun hHeld=>?_)
   clear hK K
   refine rN (nA 77) ?_
   refine rO (N:=some 79) HT_ rfl rfl D5 D8 (fun K hK=>?_)
   refine goes_ Try.func47 D5 rfl #[.agg #[.int .i64 t541, .int .i64 t542]] D15 rfl rfl D10 ?_
   with_reducible refine (spec_GoodMsr.calls t541 t542 t561 _ A23.out).mono ?_
   rintro e w35 ⟨rfl,hb⟩
   refine ⟨_,rfl,?_⟩
   replace HO545:=bR HO545 hb
   replace HO549:=bN HO549 hb
   replace HO553:=bN HO553 hb
   replace BK546:=yb BK546 hb
   replace HB:=yH HB hb
   (try clear hb)
   (try clear hb2)
   (try clear hk)
   (try clear hi)
   refine hK.out _ _ ⟨yk BK546 0,yk BK546 1⟩ (fun hHeld=>?_)
   clear hK K
   refine rN (nA 79) ?_
   refine rR ?_
   refine rO (N:=some 85) HT_ rfl rfl D5 D8 (fun K hK=>?_)
   refine goes_ Try.func47 D5 rfl #[.agg #[.int .i64 t541, .int .i64 t542]] D15 rfl rfl D10 ?_
   with_reducible refine (spec_GoodMsr.calls t541 t542 t562 _ A30.out).mono ?_
   rintro e w36 ⟨rfl,hb⟩
   refine ⟨_,rfl,?_⟩
   replace HO545:=bR HO545 hb
   replace HO549:=bN HO549 hb
   replace HO553:=bN HO553 hb
   replace BK546:=yb BK546 hb
   replace HB:=yH HB hb
   (try clear hb)
   (try clear hb2)
   (try clear hk)
   (try clear hi)
   refine hK.out _ _ ⟨yk BK546 0,yk BK546 1⟩ (fun hHeld=>?_)
   clear hK K
   refine rN (nA 85) ?_
   refine rR ?_
   refine rD HT_ D5 ?_
   try go_wp2
   go_meet
   case rel=>exact ⟨_,((t558 != t562)),D1,H',⟨D54⟩,⟨yR HO545⟩,⟨D72⟩,⟨yB BK546⟩,⟨yW HB⟩⟩
  replace c21:=Bool.eq_false_iff.mpr c21
  subst c21
  replace H:=yn H
  have H':=am H
  clear H
  try go_wp2
  replace HO545:=am (Kd.R_drew HO545.out)
  replace HO549:=am (Kd.N_drew HO549.out)
  replace HO553:=am (Kd.N_drew HO553.out)
  replace BK546:=am (qd BK546.out)
  replace HB:=am (pd HB.out)
  obtain ⟨Ao38,co38,eo38⟩:=Kd.N_slice HO549.out
  (first|subst eo38|(injection eo38 with f1_ f2_ f3_;have f4_:=f1_.symm;have f5_:=f3_.symm;clear f1_ f2_ f3_;subst f4_;subst f5_))
  obtain ⟨Ao39,co39,eo39⟩:=Kd.N_slice HO553.out
  (first|subst eo39|(injection eo39 with f1_ f2_ f3_;have f4_:=f1_.symm;have f5_:=f3_.symm;clear f1_ f2_ f3_;subst f4_;subst f5_))
  refine rS (n:=22) (S:=fun w'=>True) (ds:=[]) [(0,66),(1,67),(2,68),(3,69),(4,70),(5,71),(6,0),(7,73),(8,74),(9,75),(10,76),(11,77),(12,78),(13,79),(14,80),(15,81),(16,82),(17,83),(18,84),(19,85),(20,86),(21,87)] D5 rfl laws_FnMsr.tab7 laws_FnMsr.bits7 trivial (fun hHeld HT_ HW_=>?_)
  generalize w17.drew=w37 at HO545 HO549 HO553 BK546 HB hHeld ⊢
  refine rR ?_
  refine rO (N:=some 72) HT_ rfl rfl D5 D8 (fun K hK=>?_)
  refine goes_ Try.func45 D5 rfl #[.slice Ao38 t547.length co38, .slice Ao39 t551.length co39] D15 rfl rfl D10 ?_
  with_reducible refine (laws_samePieces.calls k _ _ t547 _ _ t551 false _ (yc (Kd.N_reads' HO549.out).2.2) (Kd.N_reads' HO549.out).2.1 (yc (Kd.N_reads' HO553.out).2.2) (Kd.N_reads' HO553.out).2.1 A20.out).mono ?_
  rintro e w' ⟨rfl,⟨nd,rfl⟩⟩
  refine ⟨_,rfl,?_⟩
  refine hK.out _ _ trivial (fun hHeld=>?_)
  clear hK K
  refine rN (nA 72) ?_
  refine rR ?_
  refine rD HT_ D5 ?_
  try go_wp2
  go_meet
  case rel=>exact ⟨_,(true),D1,H',⟨D54⟩,⟨yR HO545⟩,⟨D72⟩,⟨yB BK546⟩,⟨yW HB⟩⟩
 case rest=>as_aux_lemma=>
  clear HC8
  try clear c2
  try clear p2
  try clear c4
  try clear c21
  try clear c24
  try clear c24b0
  try clear c24b1
  try clear c24b2
  obtain ⟨kq,x87_7,rfl,HA,HJ7,HO_6,HO_7,BK546,HB⟩:=hcut
  cases kq with
  | zero=>exact absurd HA.out (by simp [laws_FnMsr.j0])
  | succ kj7 =>
   have H:=HA.out
   clear HA
   simp only [laws_FnMsr.j0] at H
   by_cases c40:x87_7=true
   ·subst c40
    replace H:=yt H
    obtain rfl:=Option.some.inj H
    go_wp2
    go_ret
    exact ⟨D2,yW HB⟩
   replace c40:=Bool.eq_false_iff.mpr c40
   subst c40
   replace H:=yn H
   by_cases c41:t550=true
   ·subst c41
    replace H:=yt H
    obtain ⟨t563,A42,H⟩:=yo H
    have H':=am H
    clear H
    obtain ⟨hcz43_0,hcz43_1,hfz43_0,hfz43_1⟩:=yk2 BK546
    go_wp2_with (first|((with_reducible refine gC 37 ?_);refine gM (some 94) Try.func37 (args:=#[.int .i64 t541, .int .i64 t542, .slice A1 l1.length c1]) (laws_someOf.calls kj7 t541 t542 _ _ l1 t563 _ (yc (Kd.C_below HR1.out HB.out)) HC1.out A42.out) ?_;rintro e w44 ⟨v564,rfl,ho0,hb⟩;refine ⟨_,rfl,?_⟩;replace HO_6:=bR HO_6 hb;replace HO_7:=eN HO_7 (Kd.R_base ho0) hb;have HO565:=am (Kd.R_lower ho0 (pz (yW HB)));replace BK546:=yb BK546 hb;replace HB:=yH HB hb;clear hb ho0;obtain ⟨Ao45,co45,eo45⟩:=Kd.R_slice HO565.out;subst eo45))
    go_loopg [15,96] kj7 (fun kq v15 v96 w'=>∃ (x15_2:List (S76)) (x96_2:Int),v96 = .int .i64 x96_2∧Aside0 (laws_FnMsr.l0 kq l1 t543 t547 t555 t556 t557 x15_2 t563 (t563.length:Int) x96_2 t541 t542=some r)∧Aside0 (kq≤kj7)∧Aside0 (Kd.R (Kd.int .u8) 5 w' w.heap.size (fun _=>True) (.slice Ao12 t543.length co12) t543)∧Aside0 (Kd.N k76 76 w' w.heap.size (fun k_=>some k_ ≠ ((.slice Ao12 t543.length co12):Value).ownBlock∧some k_ ≠ (v15:Value).ownBlock∧some k_ ≠ ((.slice Ao45 t563.length co45):Value).ownBlock∧k_ ≠ gb546) v548 t547)∧Aside0 (Kd.N k76 76 w' w.heap.size (fun k_=>some k_ ≠ ((.slice Ao12 t543.length co12):Value).ownBlock∧some k_ ≠ (v548:Value).ownBlock∧some k_ ≠ ((.slice Ao45 t563.length co45):Value).ownBlock∧k_ ≠ gb546) v15 x15_2)∧Aside0 (Kd.R (Kd.int .i64) 3 w' w.heap.size (fun _=>True) (.slice Ao45 t563.length co45) t563)∧Aside0 (w'.heap[gb546]? = some (.cells #[.int .i64 t541, .int .i64 t542] 30 (0,0)))∧Aside0 (Below w.heap.size w w'))
    case atStart=>exact ⟨(([]:List (S76))),(0),D1,H',⟨Nat.le_refl _⟩,⟨yR HO_6⟩,⟨by refine sN ?_;exact Kd.N_mono HO_7.out (fun _ hk=>⟨hk.1.1,⟨D81,⟨hk.2,hk.1.2⟩⟩⟩)⟩,⟨D18⟩,⟨yR HO565⟩,⟨yB BK546⟩,⟨yW HB⟩⟩
    case round=>as_aux_lemma=>
     clear H'
     try clear c1
     try clear c2
     try clear p2
     try clear c3
     try clear c4
     try clear c21
     try clear c24
     try clear c24b0
     try clear c24b1
     try clear c24b2
     try clear c37
     try clear c40
     try clear c41
     try clear c45
     try clear hcz43_0
     try clear hcz43_1
     try clear hfz43_0
     try clear hfz43_1
     try clear p2
     obtain ⟨x15_2,x96_2,rfl,HA,HK2,HO_6,HO_7,HO_15,HO_94,BK546,HB⟩:=hrel
     cases gk with
     | zero=>exact absurd HA.out (by simp [laws_FnMsr.l0])
     | succ k2 =>
      have H:=HA.out
      clear HA
      simp only [laws_FnMsr.l0] at H
      by_cases c46:x96_2 < (t563.length:Int)
      ·rw [if_pos c46] at H
       have c46b0:=decide_eq_true c46
       clear c46
       by_cases c47:0≤x96_2
       ·rw [if_pos c47] at H
        have c47b0:=decide_eq_true c47
        clear c47
        by_cases c48:x96_2 < (t563.length:Int)
        ·rw [if_pos c48] at H
         have c48b0:=decide_eq_true c48
         clear c48
         by_cases c49:0≤(rd t563 x96_2)
         ·rw [if_pos c49] at H
          have c49b0:=decide_eq_true c49
          clear c49
          by_cases c50:(rd t563 x96_2) < (t547.length:Int)
          ·rw [if_pos c50] at H
           have c50b0:=decide_eq_true c50
           clear c50
           by_cases c51:x15_2.length < 4398046511104
           ·rw [if_pos c51] at H
            have LMc51:=am c51
            clear c51
            generalize hy568:(x15_2 ++ [(⟨(rd_T76 t547 (rd t563 x96_2)).f0,(rd_T76 t547 (rd t563 x96_2)).f1⟩:S76)]:List (S76))=y568 at H
            have Ny568:=am hy568.symm
            clear hy568
            have H':=am H
            clear H
            have p566:0≤(x96_2:Int):=od D0
            have q566:x96_2 < (t563.length:Int):=od D0
            obtain ⟨ad566,e566,hx566_0⟩:=Kd.at_int (Kd.R_reads' HO_94.out).2.2 x96_2 p566 q566
            cases e566
            replace p566:=eq_true p566
            replace q566:=eq_true q566
            obtain ⟨Ao52,co52,eo52⟩:=Kd.N_slice HO_7.out
            subst eo52
            have p567:0≤((rd t563 x96_2):Int):=od D0
            have q567:(rd t563 x96_2) < (t547.length:Int):=od D0
            obtain ⟨ad567,A567_1,c567_1,e567,hx567_0,hx567_1,hl567_1,hi567_1⟩:=at_T76 (Kd.N_reads' HO_7.out).2.2 (rd t563 x96_2) p567 q567
            cases e567
            obtain ⟨ce567,hce567,hMe567,hcc567⟩:=Kd.N_get HO_7.out z76 (rd t563 x96_2) p567 (by first|exact q567|exact od D0|(have e_:=(Kd.N_reads' HO_7.out).1;omega))
            obtain ⟨ua567_1,uc567_1,rfl,ul567_1,ge567_1⟩:=k76_openF hMe567
            have hv567_1:=hcc567 1 _ rfl
            rw [add_field _ _ 1 D11] at hv567_1
            replace hv567_1:=Option.some.inj (hv567_1.symm.trans hx567_1)
            injection hv567_1 with hva_ hvn_ hvc_
            rw [hva_] at ge567_1
            rw [hvc_] at ul567_1
            have HL567_1:=am (show Kd.V (Kd.int .u8) 5 _ w.heap.size _ _ ((rd_T76 t547 (rd t563 x96_2)).f1) from Kd.V_mk ul567_1 ge567_1)
            clear hva_ hvn_ hvc_ ge567_1 ul567_1
            clear hcc567 hce567
            have HR567_1:=am hi567_1
            have HC567_1:=am hl567_1
            clear hi567_1 hl567_1
            replace p567:=eq_true p567
            replace q567:=eq_true q567
            go_wp2_with (first|((with_reducible refine gate_builtin (b:=.append) (xs:=#[.tmp 100, .tmp 105]) rfl ?_);(try (refine gate_guard D15 ?_;dsimp only));at_builtin;refine Kd.N_append k76 (w0:=w) w.heap.size rfl (.tmp 100) (.tmp 105) 38 76 (.agg #[(.int .i64 0),(.slice none 0 0)]) 32 rfl Try.underlying38 info76 rfl D8 D11 u15 x15_2 (⟨(rd_T76 t547 (rd t563 x96_2)).f0,(rd_T76 t547 (rd t563 x96_2)).f1⟩:S76) [.int .i64 ((rd_T76 t547 (rd t563 x96_2)).f0), .slice A567_1 ((rd_T76 t547 (rd t563 x96_2)).f1).length c567_1] (fun k_=>some k_ ≠ (.slice Ao12 t543.length co12:Value).ownBlock∧some k_ ≠ (.slice (some ad567) t547.length co52:Value).ownBlock∧some k_ ≠ (.slice (some ad566) t563.length co45:Value).ownBlock∧k_ ≠ gb546) (fun k_=>((fun k_=>some k_ ≠ (.slice Ao12 t543.length co12:Value).ownBlock∧some k_ ≠ (.slice (some ad567) t547.length co52:Value).ownBlock∧some k_ ≠ (.slice (some ad566) t563.length co45:Value).ownBlock∧k_ ≠ gb546)) k_∧some k_ ≠ (u15:Value).ownBlock) rfl rfl (by exact (k76_mkF _ _ (⟨(rd_T76 t547 (rd t563 x96_2)).f0,(rd_T76 t547 (rd t563 x96_2)).f1⟩:S76) (Kd.V_reads' (Kd.V_mono (ok':=(fun k_=>((fun k_=>some k_ ≠ (.slice Ao12 t543.length co12:Value).ownBlock∧some k_ ≠ (.slice (some ad567) t547.length co52:Value).ownBlock∧some k_ ≠ (.slice (some ad566) t563.length co45:Value).ownBlock∧k_ ≠ gb546)) k_∧some k_ ≠ (u15:Value).ownBlock)) (HL567_1.out) (fun k_ hk=>⟨⟨hk.1.1,⟨hk.2,⟨hk.1.2.2.1,hk.1.2.2.2⟩⟩⟩,hk.1.2.1⟩))).2.1 (Kd.V_F (Kd.V_mono (ok':=(fun k_=>((fun k_=>some k_ ≠ (.slice Ao12 t543.length co12:Value).ownBlock∧some k_ ≠ (.slice (some ad567) t547.length co52:Value).ownBlock∧some k_ ≠ (.slice (some ad566) t563.length co45:Value).ownBlock∧k_ ≠ gb546)) k_∧some k_ ≠ (u15:Value).ownBlock)) (HL567_1.out) (fun k_ hk=>⟨⟨hk.1.1,⟨hk.2,⟨hk.1.2.2.1,hk.1.2.2.2⟩⟩⟩,hk.1.2.1⟩))))) (fun _ hk=>hk) (by exact (fun k_ hk=>⟨Kd.fresh' (Kd.R_lt (yR HO_6)) k_ hk,Kd.fresh' (Kd.N_lt (yN HO_7)) k_ hk,Kd.fresh' (Kd.R_lt (yR HO_94)) k_ hk,yz BK546 k_ hk⟩)) (by exact (yN HO_15)) D55 D47 (by have:=LMc51.out;omega) ?_;intro v569 w53 ho hb hg hat;rw [← Ny568.out] at ho;have n0_:=am (Kd.R_over' (yR HO_6) (Kd.N_typed (yN HO_15)) D8 hg);have n1_:=am (Kd.N_afterv (ok:=(fun k_=>some k_ ≠ (.slice Ao12 t543.length co12:Value).ownBlock∧some k_ ≠ (.slice (some ad566) t563.length co45:Value).ownBlock∧k_ ≠ gb546)) (by refine sN ?_;exact Kd.N_mono HO_7.out (fun _ hk=>⟨⟨hk.1,⟨hk.2.2.1,hk.2.2.2⟩⟩,hk.2.1⟩)) hg hat);have n2_:=am (Kd.R_over' (yR HO_94) (Kd.N_typed (yN HO_15)) D8 hg);have n3_:=am (blk_grown (g:=gb546) (o:=.cells #[.int .i64 t541, .int .i64 t542] 30 (0,0)) (yB BK546) hg (Kd.N_ne HO_15.out BK546.out D8));have n4_:=am (Kd.V_afterv (ok:=(fun k_=>some k_ ≠ (.slice Ao12 t543.length co12:Value).ownBlock∧some k_ ≠ (.slice (some ad567) t547.length co52:Value).ownBlock∧some k_ ≠ (.slice (some ad566) t563.length co45:Value).ownBlock∧k_ ≠ gb546)) (by refine sV ?_;exact Kd.V_mono HL567_1.out (fun _ hk=>⟨⟨hk.1.1,⟨hk.2,⟨hk.1.2.2.1,hk.1.2.2.2⟩⟩⟩,hk.1.2.1⟩)) hg hat);have n5_:=am (hb);have n6_:=am (ho);clear HO_6 HO_7 HO_94 BK546 HL567_1 HB HO_15;have HO_6:=n0_;have HO_7:=n1_;have HO_94:=n2_;have BK546:=n3_;have HL567_1:=n4_;have HB:=n5_;have HO570:=n6_;clear n0_ n1_ n2_ n3_ n4_ n5_ n6_ ho hb hg hat))
            go_roundg k2
            case measure=>have:=HJ7.out;have:=HK2.out;omega
            case rel=>exact ⟨(y568),(wrap64 (x96_2+1)),D1,H',⟨by have:=HJ7.out;have:=HK2.out;omega⟩,⟨yR HO_6⟩,⟨by refine sN ?_;exact Kd.N_mono HO_7.out (fun _ hk=>⟨hk.1.1,⟨hk.2,⟨hk.1.2.1,hk.1.2.2⟩⟩⟩)⟩,⟨yN HO570⟩,⟨yR HO_94⟩,⟨yB BK546⟩,⟨yW HB⟩⟩
           rw [if_neg c51] at H
           exact absurd H D43
          rw [if_neg c50] at H
          exact absurd H D43
         rw [if_neg c49] at H
         exact absurd H D43
        rw [if_neg c48] at H
        exact absurd H D43
       rw [if_neg c47] at H
       exact absurd H D43
      rw [if_neg c46] at H
      have c46b0:=decide_eq_false c46
      clear c46
      obtain ⟨⟨t571,t574⟩,A54,H⟩:=yo H
      try dsimp only at H
      obtain ⟨⟨t575,t578⟩,A55,H⟩:=yo H
      try dsimp only at H
      have HC56:=am H
      clear H
      obtain ⟨hcz57_0,hcz57_1,hfz57_0,hfz57_1⟩:=yk2 BK546
      obtain ⟨Ao58,co58,eo58⟩:=Kd.N_slice HO_15.out
      subst eo58
      go_upto_region 18 with (first|((with_reducible refine gC 48 ?_);refine gM (some 111) Try.func48 (args:=#[.agg #[.int .i64 t541, .int .i64 t542], .slice Ao58 x15_2.length co58]) (impl_DecodeMsr.calls k2 t541 t542 _ _ x15_2 t571 t574 _ (yc (Kd.N_reads' HO_15.out).2.2) (Kd.N_reads' HO_15.out).2.1 A54.out) ?_;rintro e w59 ⟨v572,rfl,ho0,hb⟩;refine ⟨_,rfl,?_⟩;replace HO_7:=eN HO_7 (Kd.R_base ho0) hb;replace HO_15:=eN HO_15 (Kd.R_base ho0) hb;replace HO_94:=bR HO_94 hb;have HO573:=am (Kd.R_lower (Kd.R_new' ho0 (Kd.R_lt (yR HO_6))) (pz (yW HB)));replace HO_6:=eR HO_6 (Kd.R_base ho0) hb;replace BK546:=yb BK546 hb;replace HB:=yH HB hb;clear hb ho0;obtain ⟨hcz60_0,hcz60_1,hfz60_0,hfz60_1⟩:=yk2 BK546)|((with_reducible refine gC 12 ?_);refine gM (some 117) Try.func12 (args:=#[.agg #[.int .i64 t541, .int .i64 t542], .slice Ao12 t543.length co12]) (impl_MessageOf.calls k2 t541 t542 _ _ t543 t575 t578 _ (yc (Kd.R_reads' HO_6.out).2.2) (Kd.R_reads' HO_6.out).2.1 A55.out) ?_;rintro e w61 ⟨v576,rfl,ho0,hb⟩;refine ⟨_,rfl,?_⟩;have HO577:=am (Kd.N_lower (Kd.N_mono (ok':=fun k_=>some k_ ≠ (.slice Ao12 t543.length co12:Value).ownBlock∧some k_ ≠ (v548:Value).ownBlock∧some k_ ≠ (.slice Ao58 x15_2.length co58:Value).ownBlock∧some k_ ≠ (.slice Ao45 t563.length co45:Value).ownBlock∧some k_ ≠ (v572:Value).ownBlock∧k_ ≠ gb546) (Kd.S_N (Kd.S_bound ho0)) (fun k_ hk_=>⟨(Kd.fresh' (Kd.R_lt (yR HO_6)) k_ hk_.2.1),(Kd.fresh' (Kd.N_lt (yN HO_7)) k_ hk_.2.1),(Kd.fresh' (Kd.N_lt (yN HO_15)) k_ hk_.2.1),(Kd.fresh' (Kd.R_lt (yR HO_94)) k_ hk_.2.1),(Kd.fresh' (Kd.R_lt (yR HO573)) k_ hk_.2.1),(yz BK546 k_ hk_.2.1)⟩)) (pz (yW HB)));replace HO_6:=bR HO_6 hb;replace HO_7:=eN HO_7 D26 hb;replace HO_15:=eN HO_15 D26 hb;replace HO_94:=bR HO_94 hb;replace HO573:=bR HO573 hb;replace BK546:=yb BK546 hb;replace HB:=yH HB hb;clear hb ho0)|((with_reducible refine gD 20 ?_);(try (refine gate_guard D15 ?_;dsimp only));refine gB (cs:=#[.slice none 0 0]) 27 ?_;intro gb579 hg w62 hbox hb;replace HO_6:=bR HO_6 hb;replace HO_7:=oN HO_7 hg hb;replace HO_15:=oN HO_15 hg hb;replace HO_94:=bR HO_94 hb;replace HO573:=bR HO573 hb;replace HO577:=oN HO577 hg hb;have BK579:=am (hbox);have GW579:=ye HB hg;replace HB:=yH HB hb;have NB546_579:=yl BK546 hg;have NB579_546:=yg BK546 hg;replace BK546:=yb BK546 hb;have GE579:=GW579;clear hb hbox hg;obtain ⟨Ao63,co63,eo63⟩:=Kd.N_slice HO577.out;subst eo63;have hnb64:=NB579_546.out;have hnc64:=NB546_579.out;obtain ⟨hcz65_0,hfz65_0⟩:=yk1 BK579))
      (try simp only [Act.put,q1,q2,q3])
      go_cut [159] (fun v159 wc=>∃ (kq:Nat) (x159_55:Bool),v159 = .bool x159_55∧Aside0 (laws_FnMsr.j2 kq l1 t547 t556 x159_55 t541 t542 t575=some r)∧Aside0 (kq≤k2)∧Aside0 (Kd.N k76 76 wc w.heap.size (fun k_=>some k_ ≠ ((.slice Ao63 t575.length co63):Value).ownBlock∧k_ ≠ gb546∧k_ ≠ gb579) v548 t547)∧Aside0 (Kd.N (Kd.slice 5 (Kd.int .u8)) 24 wc w.heap.size (fun k_=>some k_ ≠ (v548:Value).ownBlock∧k_ ≠ gb546∧k_ ≠ gb579) (.slice Ao63 t575.length co63) t575)∧Aside0 (wc.heap[gb546]? = some (.cells #[.int .i64 t541, .int .i64 t542] 30 (0,0)))∧Aside0 (wc.heap[gb579]? = some (.cells #[(.slice Ao63 t575.length co63)] 27 (0,0)))∧Aside0 (Below w.heap.size w wc))
      case first=>as_aux_lemma=>
       have H:=HC56.out
       clear HC56
       by_cases c66:t574=true
       ·subst c66
        replace H:=yt H
        obtain ⟨t580,A67,H⟩:=yo H
        by_cases c68:t580=true
        ·subst c68
         replace H:=yt H
         by_cases c69:t578=true
         ·subst c69
          replace H:=yt H
          by_cases c70:(t575.length:Int)=(wrap64 (2*t555))
          ·rw [if_pos c70] at H
           have c70b0:((t575.length:Int) == (wrap64 (2*t555)))=true:=beq_iff_eq.mpr c70
           have c70b1:((t575.length:Int) != (wrap64 (2*t555)))=false:=bne_eq_false_iff_eq.mpr c70
           clear c70
           (first|rw [c70b0]|(simp only [i64_w,i32_w];rw [c70b0])|skip)
           by_cases c71:(wrap64 (t542*t555))=t557
           ·rw [if_pos c71] at H
            have c71b0:((wrap64 (t542*t555)) == t557)=true:=beq_iff_eq.mpr c71
            have c71b1:((wrap64 (t542*t555)) != t557)=false:=bne_eq_false_iff_eq.mpr c71
            clear c71
            by_cases c72:t556=(wrap64 (2*t555))
            ·rw [if_pos c72] at H
             have c72b0:(t556 == (wrap64 (2*t555)))=true:=beq_iff_eq.mpr c72
             have c72b1:(t556 != (wrap64 (2*t555)))=false:=bne_eq_false_iff_eq.mpr c72
             clear c72
             have H':=am H
             clear H
             obtain ⟨Ao73,co73,eo73⟩:=Kd.R_slice HO573.out
             subst eo73
             go_wp2_with (first|(go_at_call 49;(with_reducible refine (laws_sameBytes.calls _ _ t571 _ _ t543 true _ (by refine (Kd.R_reads' (e:=5) (base:=w.heap.size) (ok:=fun k_=>(True∧some k_ ≠ (.slice Ao12 t543.length co12:Value).ownBlock)) (n:=t571.length) (c:=co73) ?_).2.2;exact D28) D83 (by refine (Kd.R_reads' (e:=5) (base:=w.heap.size) (ok:=fun k_=>(True∧some k_ ≠ (.slice Ao73 t571.length co73:Value).ownBlock)) (n:=t543.length) (c:=co12) ?_).2.2;exact D29) D85 A67.out).mono ?_);rintro e w' ⟨rfl,⟨nd,rfl⟩⟩;have hnb74:=NB579_546.out;have hnc74:=NB546_579.out;obtain ⟨hcz75_0,hfz75_0⟩:=yk1 BK579;obtain ⟨hcz76_0,hcz76_1,hfz76_0,hfz76_1⟩:=yk2 BK546))
             go_meet
             case rel=>exact ⟨_,(((t543.length:Int) != t557)),D1,H',⟨D56⟩,⟨D20⟩,⟨D19⟩,⟨yF BK546⟩,⟨D48⟩,⟨yW HB⟩⟩
            rw [if_neg c72] at H
            have c72b0:(t556 == (wrap64 (2*t555)))=false:=beq_eq_false_iff_ne.mpr c72
            have c72b1:(t556 != (wrap64 (2*t555)))=true:=bne_iff_ne.mpr c72
            have H':=am H
            clear H
            obtain ⟨Ao77,co77,eo77⟩:=Kd.R_slice HO573.out
            subst eo77
            go_wp2_with (first|(go_at_call 49;(with_reducible refine (laws_sameBytes.calls _ _ t571 _ _ t543 true _ (by refine (Kd.R_reads' (e:=5) (base:=w.heap.size) (ok:=fun k_=>(True∧some k_ ≠ (.slice Ao12 t543.length co12:Value).ownBlock)) (n:=t571.length) (c:=co77) ?_).2.2;exact D28) D83 (by refine (Kd.R_reads' (e:=5) (base:=w.heap.size) (ok:=fun k_=>(True∧some k_ ≠ (.slice Ao77 t571.length co77:Value).ownBlock)) (n:=t543.length) (c:=co12) ?_).2.2;exact D29) D85 A67.out).mono ?_);rintro e w' ⟨rfl,⟨nd,rfl⟩⟩;have hnb78:=NB579_546.out;have hnc78:=NB546_579.out;obtain ⟨hcz79_0,hfz79_0⟩:=yk1 BK579;obtain ⟨hcz80_0,hcz80_1,hfz80_0,hfz80_1⟩:=yk2 BK546))
            go_meet
            case rel=>exact ⟨_,(true),D1,H',⟨D56⟩,⟨D20⟩,⟨D19⟩,⟨yF BK546⟩,⟨D48⟩,⟨yW HB⟩⟩
           rw [if_neg c71] at H
           have c71b0:((wrap64 (t542*t555)) == t557)=false:=beq_eq_false_iff_ne.mpr c71
           have c71b1:((wrap64 (t542*t555)) != t557)=true:=bne_iff_ne.mpr c71
           have H':=am H
           clear H
           obtain ⟨Ao81,co81,eo81⟩:=Kd.R_slice HO573.out
           subst eo81
           go_wp2_with (first|(go_at_call 49;(with_reducible refine (laws_sameBytes.calls _ _ t571 _ _ t543 true _ (by refine (Kd.R_reads' (e:=5) (base:=w.heap.size) (ok:=fun k_=>(True∧some k_ ≠ (.slice Ao12 t543.length co12:Value).ownBlock)) (n:=t571.length) (c:=co81) ?_).2.2;exact D28) D83 (by refine (Kd.R_reads' (e:=5) (base:=w.heap.size) (ok:=fun k_=>(True∧some k_ ≠ (.slice Ao81 t571.length co81:Value).ownBlock)) (n:=t543.length) (c:=co12) ?_).2.2;exact D29) D85 A67.out).mono ?_);rintro e w' ⟨rfl,⟨nd,rfl⟩⟩;have hnb82:=NB579_546.out;have hnc82:=NB546_579.out;obtain ⟨hcz83_0,hfz83_0⟩:=yk1 BK579;obtain ⟨hcz84_0,hcz84_1,hfz84_0,hfz84_1⟩:=yk2 BK546))
           go_meet
           case rel=>exact ⟨_,(true),D1,H',⟨D56⟩,⟨D20⟩,⟨D19⟩,⟨yF BK546⟩,⟨D48⟩,⟨yW HB⟩⟩
          rw [if_neg c70] at H
          have c70b0:((t575.length:Int) == (wrap64 (2*t555)))=false:=beq_eq_false_iff_ne.mpr c70
          have c70b1:((t575.length:Int) != (wrap64 (2*t555)))=true:=bne_iff_ne.mpr c70
          (first|rw [c70b0]|(simp only [i64_w,i32_w];rw [c70b0])|skip)
          have H':=am H
          clear H
          obtain ⟨Ao85,co85,eo85⟩:=Kd.R_slice HO573.out
          subst eo85
          go_wp2_with (first|(go_at_call 49;(with_reducible refine (laws_sameBytes.calls _ _ t571 _ _ t543 true _ (by refine (Kd.R_reads' (e:=5) (base:=w.heap.size) (ok:=fun k_=>(True∧some k_ ≠ (.slice Ao12 t543.length co12:Value).ownBlock)) (n:=t571.length) (c:=co85) ?_).2.2;exact D28) D83 (by refine (Kd.R_reads' (e:=5) (base:=w.heap.size) (ok:=fun k_=>(True∧some k_ ≠ (.slice Ao85 t571.length co85:Value).ownBlock)) (n:=t543.length) (c:=co12) ?_).2.2;exact D29) D85 A67.out).mono ?_);rintro e w' ⟨rfl,⟨nd,rfl⟩⟩;have hnb86:=NB579_546.out;have hnc86:=NB546_579.out;obtain ⟨hcz87_0,hfz87_0⟩:=yk1 BK579))
          go_meet
          case rel=>exact ⟨_,(true),D1,H',⟨D56⟩,⟨D20⟩,⟨D19⟩,⟨yF BK546⟩,⟨D48⟩,⟨yW HB⟩⟩
         replace c69:=Bool.eq_false_iff.mpr c69
         subst c69
         replace H:=yn H
         have H':=am H
         clear H
         obtain ⟨Ao88,co88,eo88⟩:=Kd.R_slice HO573.out
         subst eo88
         go_wp2_with (first|(go_at_call 49;(with_reducible refine (laws_sameBytes.calls _ _ t571 _ _ t543 true _ (by refine (Kd.R_reads' (e:=5) (base:=w.heap.size) (ok:=fun k_=>(True∧some k_ ≠ (.slice Ao12 t543.length co12:Value).ownBlock)) (n:=t571.length) (c:=co88) ?_).2.2;exact D28) D83 (by refine (Kd.R_reads' (e:=5) (base:=w.heap.size) (ok:=fun k_=>(True∧some k_ ≠ (.slice Ao88 t571.length co88:Value).ownBlock)) (n:=t543.length) (c:=co12) ?_).2.2;exact D29) D85 A67.out).mono ?_);rintro e w' ⟨rfl,⟨nd,rfl⟩⟩))
         go_meet
         case rel=>exact ⟨_,(true),D1,H',⟨D56⟩,⟨D20⟩,⟨D19⟩,⟨yF BK546⟩,⟨D48⟩,⟨yW HB⟩⟩
        replace c68:=Bool.eq_false_iff.mpr c68
        subst c68
        replace H:=yn H
        have H':=am H
        clear H
        obtain ⟨Ao89,co89,eo89⟩:=Kd.R_slice HO573.out
        subst eo89
        go_wp2_with (first|(go_at_call 49;(with_reducible refine (laws_sameBytes.calls _ _ t571 _ _ t543 false _ (by refine (Kd.R_reads' (e:=5) (base:=w.heap.size) (ok:=fun k_=>(True∧some k_ ≠ (.slice Ao12 t543.length co12:Value).ownBlock)) (n:=t571.length) (c:=co89) ?_).2.2;exact D28) D83 (by refine (Kd.R_reads' (e:=5) (base:=w.heap.size) (ok:=fun k_=>(True∧some k_ ≠ (.slice Ao89 t571.length co89:Value).ownBlock)) (n:=t543.length) (c:=co12) ?_).2.2;exact D29) D85 A67.out).mono ?_);rintro e w' ⟨rfl,⟨nd,rfl⟩⟩))
        go_meet
        case rel=>exact ⟨_,(true),D1,H',⟨D56⟩,⟨D20⟩,⟨D19⟩,⟨yF BK546⟩,⟨D48⟩,⟨yW HB⟩⟩
       replace c66:=Bool.eq_false_iff.mpr c66
       subst c66
       replace H:=yn H
       have H':=am H
       clear H
       go_wp2
       go_meet
       case rel=>exact ⟨_,(true),D1,H',⟨D56⟩,⟨D20⟩,⟨D19⟩,⟨yF BK546⟩,⟨D48⟩,⟨yW HB⟩⟩
      case rest=>as_aux_lemma=>
       clear HC56
       try clear c1
       try clear c2
       try clear p2
       try clear c3
       try clear c4
       try clear c5
       try clear p5
       try clear q5
       try clear hx5
       try clear c6
       try clear p6
       try clear c7
       try clear c8
       try clear c12
       try clear c21
       try clear c24
       try clear c24b0
       try clear c24b1
       try clear c24b2
       try clear c37
       try clear c40
       try clear c41
       try clear c45
       try clear c46
       try clear c46b0
       try clear c47
       try clear c47b0
       try clear c48
       try clear c48b0
       try clear c49
       try clear c49b0
       try clear c50
       try clear c50b0
       try clear c51
       try clear c56
       try clear p56
       try clear q56
       try clear hx56
       try clear c64
       try clear p64
       try clear c66
       try clear c68
       try clear c69
       try clear c70
       try clear c70b0
       try clear c70b1
       try clear c71
       try clear c71b0
       try clear c71b1
       try clear c72
       try clear c72b0
       try clear c72b1
       try clear c74
       try clear c78
       try clear c82
       try clear c86
       try clear hcz43_0
       try clear hcz43_1
       try clear hcz57_0
       try clear hcz57_1
       try clear hcz60_0
       try clear hcz60_1
       try clear hcz65_0
       try clear hcz75_0
       try clear hcz76_0
       try clear hcz76_1
       try clear hcz79_0
       try clear hcz80_0
       try clear hcz80_1
       try clear hcz83_0
       try clear hcz84_0
       try clear hcz84_1
       try clear hcz87_0
       try clear hfz43_0
       try clear hfz43_1
       try clear hfz57_0
       try clear hfz57_1
       try clear hfz60_0
       try clear hfz60_1
       try clear hfz65_0
       try clear hfz75_0
       try clear hfz76_0
       try clear hfz76_1
       try clear hfz79_0
       try clear hfz80_0
       try clear hfz80_1
       try clear hfz83_0
       try clear hfz84_0
       try clear hfz84_1
       try clear hfz87_0
       try clear hx566_0
       try clear hx567_0
       try clear hx567_1
       try clear p2
       try clear p566
       try clear p567
       try clear q566
       try clear q567
       obtain ⟨kq,x159_55,rfl,HA,HJ55,HO_7,HO_580000,BK546,BK579,HB⟩:=hcut
       cases kq with
       | zero=>exact absurd HA.out (by simp [laws_FnMsr.j2])
       | succ kj55 =>
        have H:=HA.out
        clear HA
        simp only [laws_FnMsr.j2] at H
        by_cases c90:x159_55=true
        ·subst c90
         replace H:=yt H
         obtain rfl:=Option.some.inj H
         go_wp2
         go_ret
         exact ⟨D2,yW HB⟩
        replace c90:=Bool.eq_false_iff.mpr c90
        subst c90
        replace H:=yn H
        have H':=am H
        clear H
        obtain ⟨Ao91,co91,eo91⟩:=Kd.N_slice HO_7.out
        subst eo91
        go_wp2
        go_loopg [162] kj55 (fun kq v162 w'=>∃ (x162_4:Int),v162 = .int .i64 x162_4∧Aside0 (laws_FnMsr.l1 kq l1 t556 t547 (t547.length:Int) x162_4 t541 t542 t575=some r)∧Aside0 (kq≤kj55)∧Aside0 (Kd.N k76 76 w' w.heap.size (fun k_=>some k_ ≠ ((.slice Ao63 t575.length co63):Value).ownBlock∧k_ ≠ gb546∧k_ ≠ gb579) (.slice Ao91 t547.length co91) t547)∧Aside0 (Kd.N (Kd.slice 5 (Kd.int .u8)) 24 w' w.heap.size (fun k_=>some k_ ≠ ((.slice Ao91 t547.length co91):Value).ownBlock∧k_ ≠ gb546∧k_ ≠ gb579) (.slice Ao63 t575.length co63) t575)∧Aside0 (w'.heap[gb546]? = some (.cells #[.int .i64 t541, .int .i64 t542] 30 (0,0)))∧Aside0 (w'.heap[gb579]? = some (.cells #[(.slice Ao63 t575.length co63)] 27 (0,0)))∧Aside0 (Below w.heap.size w w'))
        case atStart=>exact ⟨(0),D1,H',⟨Nat.le_refl _⟩,⟨yN HO_7⟩,⟨yN HO_580000⟩,⟨yB BK546⟩,⟨yB BK579⟩,⟨yW HB⟩⟩
        case round=>as_aux_lemma=>
         clear H'
         try clear c1
         try clear c2
         try clear p2
         try clear c3
         try clear c4
         try clear c5
         try clear p5
         try clear q5
         try clear hx5
         try clear c6
         try clear p6
         try clear c7
         try clear c8
         try clear c9
         try clear c12
         try clear c21
         try clear c24
         try clear c24b0
         try clear c24b1
         try clear c24b2
         try clear c37
         try clear c40
         try clear c41
         try clear c45
         try clear c46
         try clear c46b0
         try clear c47
         try clear c47b0
         try clear c48
         try clear c48b0
         try clear c49
         try clear c49b0
         try clear c50
         try clear c50b0
         try clear c51
         try clear c56
         try clear p56
         try clear q56
         try clear hx56
         try clear c64
         try clear p64
         try clear c66
         try clear c68
         try clear c69
         try clear c70
         try clear c70b0
         try clear c70b1
         try clear c71
         try clear c71b0
         try clear c71b1
         try clear c72
         try clear c72b0
         try clear c72b1
         try clear c74
         try clear c78
         try clear c82
         try clear c86
         try clear c90
         try clear hcz43_0
         try clear hcz43_1
         try clear hcz57_0
         try clear hcz57_1
         try clear hcz60_0
         try clear hcz60_1
         try clear hcz65_0
         try clear hcz75_0
         try clear hcz76_0
         try clear hcz76_1
         try clear hcz79_0
         try clear hcz80_0
         try clear hcz80_1
         try clear hcz83_0
         try clear hcz84_0
         try clear hcz84_1
         try clear hcz87_0
         try clear hfz43_0
         try clear hfz43_1
         try clear hfz57_0
         try clear hfz57_1
         try clear hfz60_0
         try clear hfz60_1
         try clear hfz65_0
         try clear hfz75_0
         try clear hfz76_0
         try clear hfz76_1
         try clear hfz79_0
         try clear hfz80_0
         try clear hfz80_1
         try clear hfz83_0
         try clear hfz84_0
         try clear hfz84_1
         try clear hfz87_0
         try clear hx566_0
         try clear hx567_0
         try clear hx567_1
         try clear p2
         try clear p5
         try clear p56
         try clear p566
         try clear p567
         try clear p6
         try clear p64
         try clear q5
         try clear q56
         try clear q566
         try clear q567
         obtain ⟨x162_4,rfl,HA,HK4,HO_160,HO_580000,BK546,BK579,HB⟩:=hrel
         cases gk with
         | zero=>exact absurd HA.out (by simp [laws_FnMsr.l1])
         | succ k4 =>
          have H:=HA.out
          clear HA
          simp only [laws_FnMsr.l1] at H
          by_cases c92:x162_4 < (t547.length:Int)
          ·rw [if_pos c92] at H
           have c92b0:=decide_eq_true c92
           clear c92
           by_cases c93:0≤x162_4
           ·rw [if_pos c93] at H
            have c93b0:=decide_eq_true c93
            clear c93
            by_cases c94:x162_4 < (t547.length:Int)
            ·rw [if_pos c94] at H
             have c94b0:=decide_eq_true c94
             clear c94
             obtain ⟨⟨t583,t586⟩,A95,H⟩:=yo H
             try dsimp only at H
             by_cases c96:t586=true
             ·subst c96
              replace H:=yt H
              by_cases c97:(t583.length:Int)=t556
              ·rw [if_pos c97] at H
               have c97b0:((t583.length:Int) == t556)=true:=beq_iff_eq.mpr c97
               have c97b1:((t583.length:Int) != t556)=false:=bne_eq_false_iff_eq.mpr c97
               clear c97
               have H':=am H
               clear H
               have p581:0≤(x162_4:Int):=od D0
               have q581:x162_4 < (t547.length:Int):=od D0
               obtain ⟨ad581,A581_1,c581_1,e581,hx581_0,hx581_1,hl581_1,hi581_1⟩:=at_T76 (Kd.N_reads' HO_160.out).2.2 x162_4 p581 q581
               cases e581
               obtain ⟨ce581,hce581,hMe581,hcc581⟩:=Kd.N_get HO_160.out z76 x162_4 p581 D100
               obtain ⟨ua581_1,uc581_1,rfl,ul581_1,ge581_1⟩:=k76_openF hMe581
               have hv581_1:=hcc581 1 _ rfl
               rw [add_field _ _ 1 D11] at hv581_1
               replace hv581_1:=Option.some.inj (hv581_1.symm.trans hx581_1)
               injection hv581_1 with hva_ hvn_ hvc_
               rw [hva_] at ge581_1
               rw [hvc_] at ul581_1
               have HL581_1:=am (show Kd.V (Kd.int .u8) 5 _ w.heap.size _ _ ((rd_T76 t547 x162_4).f1) from Kd.V_mk ul581_1 ge581_1)
               clear hva_ hvn_ hvc_ ge581_1 ul581_1
               clear hcc581 hce581
               have HR581_1:=am hi581_1
               have HC581_1:=am hl581_1
               clear hi581_1 hl581_1
               replace p581:=eq_true p581
               replace q581:=eq_true q581
               go_wp2_with (first|((with_reducible refine gD 23 ?_);(try (refine gate_guard D15 ?_;dsimp only));refine gB (cs:=#[.int .i64 0, .slice none 0 0]) 76 ?_;intro gb582 hg w98 hbox hb;replace HO_160:=oN HO_160 hg hb;replace HO_580000:=oN HO_580000 hg hb;replace HL581_1:=am (Kd.V_below (Kd.V_elderB (yV HL581_1) gb582 (Nat.le_of_eq hg.symm)) hb);replace HR581_1:=am (Kd.C_below D25 hb);have BK582:=am (hbox);have GW582:=ye HB hg;replace HB:=yH HB hb;have NB546_582:=yl BK546 hg;have NB582_546:=yg BK546 hg;replace BK546:=yb BK546 hb;have NB579_582:=yl BK579 hg;have NB582_579:=yg BK579 hg;replace BK579:=yb BK579 hb;have GE582:=GW582;clear hb hbox hg;have hnb99:=NB582_546.out;have hnc99:=NB546_582.out;have hnb100:=NB582_579.out;have hnc100:=NB579_582.out;obtain ⟨hcz101_0,hcz101_1,hfz101_0,hfz101_1⟩:=yk2 BK582;have hnb102:=NB546_579.out;have hnc102:=NB579_546.out;obtain ⟨hcz103_0,hcz103_1,hfz103_0,hfz103_1⟩:=yk2 BK546)|((with_reducible refine gC 50 ?_);refine gM (some 170) Try.func50 (args:=#[.agg #[.int .i64 t541, .int .i64 t542], .int .i64 x162_4]) (impl_MsrRow.calls k4 t541 t542 x162_4 t583 true _ A95.out) ?_;rintro e w104 ⟨v584,rfl,ho0,hb⟩;refine ⟨_,rfl,?_⟩;replace HO_160:=am (Kd.N_elder' D40 (Kd.R_base ho0) hb);replace HO_580000:=am (Kd.N_elder' D39 (Kd.R_base ho0) hb);have HO585:=am (Kd.R_lower ho0 (pz (yW HB)));replace BK546:=am (qb (g:=gb546) (o:=.cells #[.int .i64 t541, .int .i64 t542] 30 (0,0)) (yF BK546) hb);replace BK579:=am (qb (g:=gb579) (o:=.cells #[.slice Ao63 t575.length co63] 27 (0,0)) (yF BK579) hb);replace HR581_1:=am (Kd.C_below ((Kd.V_reads' D16).2.2) hb);replace HL581_1:=am (Kd.V_elder' D16 (Kd.R_base ho0) hb);replace BK582:=am (qb (g:=gb582) (o:=.cells #[.int .i64 ((rd_T76 t547 x162_4).f0), .slice A581_1 ((rd_T76 t547 x162_4).f1).length c581_1] 76 (0,0)) D52 hb);replace HB:=yH HB hb;clear hb ho0;obtain ⟨Ao105,co105,eo105⟩:=Kd.R_slice HO585.out;subst eo105;obtain ⟨hcz106_0,hcz106_1,hfz106_0,hfz106_1⟩:=yk2 BK582))
               go_loopg [184] k4 (fun kq v184 w'=>∃ (x184_5:Int),v184 = .int .i64 x184_5∧Aside0 (laws_FnMsr.l2 kq l1 t556 t583 t547 (t547.length:Int) x162_4 ((rd_T76 t547 x162_4).f1) (((rd_T76 t547 x162_4).f1).length:Int) x184_5 t541 t542 t575=some r)∧Aside0 (kq≤k4)∧Aside0 (Kd.R (Kd.int .u8) 5 w' w.heap.size (fun _=>True) (.slice Ao105 t583.length co105) t583)∧Aside0 (Kd.N k76 76 w' w.heap.size (fun k_=>some k_ ≠ ((.slice Ao105 t583.length co105):Value).ownBlock∧some k_ ≠ ((.slice Ao63 t575.length co63):Value).ownBlock∧k_ ≠ gb546∧k_ ≠ gb579∧k_ ≠ gb582) (.slice (some ad581) t547.length co91) t547)∧Aside0 (Kd.N (Kd.slice 5 (Kd.int .u8)) 24 w' w.heap.size (fun k_=>some k_ ≠ ((.slice Ao105 t583.length co105):Value).ownBlock∧some k_ ≠ ((.slice (some ad581) t547.length co91):Value).ownBlock∧k_ ≠ gb546∧k_ ≠ gb579∧k_ ≠ gb582) (.slice Ao63 t575.length co63) t575)∧Aside0 (w'.heap[gb546]? = some (.cells #[.int .i64 t541, .int .i64 t542] 30 (0,0)))∧Aside0 (w'.heap[gb579]? = some (.cells #[(.slice Ao63 t575.length co63)] 27 (0,0)))∧Aside0 (w'.heap[gb582]? = some (.cells #[.int .i64 ((rd_T76 t547 x162_4).f0),(.slice A581_1 ((rd_T76 t547 x162_4).f1).length c581_1)] 76 (0,0)))∧Aside0 (Kd.C (Kd.int .u8) w' A581_1 ((rd_T76 t547 x162_4).f1).length ((rd_T76 t547 x162_4).f1))∧Aside0 (Below w.heap.size w w'))
               case atStart=>exact ⟨(0),D1,H',⟨Nat.le_refl _⟩,⟨yR HO585⟩,⟨by refine sN ?_;exact Kd.N_mono HO_160.out (fun _ hk=>⟨hk.2,⟨hk.1.1.1,⟨hk.1.1.2.1,⟨hk.1.1.2.2,hk.1.2⟩⟩⟩⟩)⟩,⟨by refine sN ?_;exact Kd.N_mono HO_580000.out (fun _ hk=>⟨hk.2,⟨hk.1.1.1,⟨hk.1.1.2.1,⟨hk.1.1.2.2,hk.1.2⟩⟩⟩⟩)⟩,⟨yB BK546⟩,⟨yB BK579⟩,⟨yB BK582⟩,⟨D25⟩,⟨yW HB⟩⟩
               case round=>as_aux_lemma=>
                clear H'
                try clear c1
                try clear c2
                try clear p2
                try clear c3
                try clear c4
                try clear c5
                try clear p5
                try clear q5
                try clear hx5
                try clear c6
                try clear p6
                try clear c7
                try clear c8
                try clear c9
                try clear c10
                try clear c12
                try clear c21
                try clear c24
                try clear c24b0
                try clear c24b1
                try clear c24b2
                try clear c37
                try clear c40
                try clear c41
                try clear c45
                try clear c46
                try clear c46b0
                try clear c47
                try clear c47b0
                try clear c48
                try clear c48b0
                try clear c49
                try clear c49b0
                try clear c50
                try clear c50b0
                try clear c51
                try clear c56
                try clear p56
                try clear q56
                try clear hx56
                try clear c58
                try clear p58
                try clear q58
                try clear hx58
                try clear c64
                try clear p64
                try clear c66
                try clear c68
                try clear c69
                try clear c70
                try clear c70b0
                try clear c70b1
                try clear c71
                try clear c71b0
                try clear c71b1
                try clear c72
                try clear c72b0
                try clear c72b1
                try clear c74
                try clear c78
                try clear c82
                try clear c86
                try clear c90
                try clear c92
                try clear c92b0
                try clear c93
                try clear c93b0
                try clear c94
                try clear c94b0
                try clear c96
                try clear c97
                try clear c97b0
                try clear c97b1
                try clear c99
                try clear c100
                try clear c102
                try clear hcz101_0
                try clear hcz101_1
                try clear hcz103_0
                try clear hcz103_1
                try clear hcz106_0
                try clear hcz106_1
                try clear hcz43_0
                try clear hcz43_1
                try clear hcz57_0
                try clear hcz57_1
                try clear hcz60_0
                try clear hcz60_1
                try clear hcz65_0
                try clear hcz75_0
                try clear hcz76_0
                try clear hcz76_1
                try clear hcz79_0
                try clear hcz80_0
                try clear hcz80_1
                try clear hcz83_0
                try clear hcz84_0
                try clear hcz84_1
                try clear hcz87_0
                try clear hfz101_0
                try clear hfz101_1
                try clear hfz103_0
                try clear hfz103_1
                try clear hfz106_0
                try clear hfz106_1
                try clear hfz43_0
                try clear hfz43_1
                try clear hfz57_0
                try clear hfz57_1
                try clear hfz60_0
                try clear hfz60_1
                try clear hfz65_0
                try clear hfz75_0
                try clear hfz76_0
                try clear hfz76_1
                try clear hfz79_0
                try clear hfz80_0
                try clear hfz80_1
                try clear hfz83_0
                try clear hfz84_0
                try clear hfz84_1
                try clear hfz87_0
                try clear hx566_0
                try clear hx567_0
                try clear hx567_1
                try clear hx581_0
                try clear hx581_1
                try clear p2
                try clear p5
                try clear p56
                try clear p566
                try clear p567
                try clear p581
                try clear p6
                try clear p64
                try clear q5
                try clear q56
                try clear q566
                try clear q567
                try clear q581
                obtain ⟨x184_5,rfl,HA,HK5,HO_24,HO_160,HO_580000,BK546,BK579,BK582,HR581_1,HB⟩:=hrel
                cases gk with
                | zero=>exact absurd HA.out (by simp [laws_FnMsr.l2])
                | succ k5 =>
                 have H:=HA.out
                 clear HA
                 simp only [laws_FnMsr.l2] at H
                 by_cases c107:x184_5 < (((rd_T76 t547 x162_4).f1).length:Int)
                 ·rw [if_pos c107] at H
                  have c107b0:=decide_eq_true c107
                  clear c107
                  by_cases c108:0≤x184_5
                  ·rw [if_pos c108] at H
                   have c108b0:=decide_eq_true c108
                   clear c108
                   by_cases c109:x184_5 < (((rd_T76 t547 x162_4).f1).length:Int)
                   ·rw [if_pos c109] at H
                    have c109b0:=decide_eq_true c109
                    clear c109
                    have H':=am H
                    clear H
                    have p587:0≤(x184_5:Int):=od D0
                    have q587:x184_5 < (((rd_T76 t547 x162_4).f1).length:Int):=od D0
                    obtain ⟨ad587,e587,hx587_0⟩:=Kd.at_int HR581_1.out x184_5 p587 q587
                    cases e587
                    replace p587:=eq_true p587
                    replace q587:=eq_true q587
                    go_wp2
                    go_loopg [28,191] k5 (fun kq v28 v191 w'=>∃ (x28_6:Int) (x191_6:Int),v28 = .int .u8 x28_6∧v191 = .int .i64 x191_6∧Aside0 (laws_FnMsr.l3 kq l1 t556 t583 x184_5 (rd ((rd_T76 t547 x162_4).f1) x184_5) x28_6 t547 (t547.length:Int) x162_4 ((rd_T76 t547 x162_4).f1) (((rd_T76 t547 x162_4).f1).length:Int) x184_5 (t583.length:Int) x191_6 t541 t542 t575=some r)∧Aside0 (kq≤k5)∧Aside0 (Kd.R (Kd.int .u8) 5 w' w.heap.size (fun _=>True) (.slice Ao105 t583.length co105) t583)∧Aside0 (Kd.N k76 76 w' w.heap.size (fun k_=>some k_ ≠ ((.slice Ao105 t583.length co105):Value).ownBlock∧some k_ ≠ ((.slice Ao63 t575.length co63):Value).ownBlock∧k_ ≠ gb546∧k_ ≠ gb579∧k_ ≠ gb582) (.slice (some ad581) t547.length co91) t547)∧Aside0 (Kd.N (Kd.slice 5 (Kd.int .u8)) 24 w' w.heap.size (fun k_=>some k_ ≠ ((.slice Ao105 t583.length co105):Value).ownBlock∧some k_ ≠ ((.slice (some ad581) t547.length co91):Value).ownBlock∧k_ ≠ gb546∧k_ ≠ gb579∧k_ ≠ gb582) (.slice Ao63 t575.length co63) t575)∧Aside0 (w'.heap[gb546]? = some (.cells #[.int .i64 t541, .int .i64 t542] 30 (0,0)))∧Aside0 (w'.heap[gb579]? = some (.cells #[(.slice Ao63 t575.length co63)] 27 (0,0)))∧Aside0 (w'.heap[gb582]? = some (.cells #[.int .i64 ((rd_T76 t547 x162_4).f0),(.slice (some ad587) ((rd_T76 t547 x162_4).f1).length c581_1)] 76 (0,0)))∧Aside0 (Kd.C (Kd.int .u8) w' (some ad587) ((rd_T76 t547 x162_4).f1).length ((rd_T76 t547 x162_4).f1))∧Aside0 (Below w.heap.size w w'))
                    case atStart=>exact ⟨(0),(0),D1,D1,H',⟨Nat.le_refl _⟩,⟨yR HO_24⟩,⟨yN HO_160⟩,⟨yN HO_580000⟩,⟨yB BK546⟩,⟨yB BK579⟩,⟨yB BK582⟩,⟨D25⟩,⟨yW HB⟩⟩
                    case round=>as_aux_lemma=>
                     clear H'
                     try clear c1
                     try clear c2
                     try clear p2
                     try clear c3
                     try clear c4
                     try clear c5
                     try clear p5
                     try clear q5
                     try clear hx5
                     try clear c6
                     try clear p6
                     try clear c7
                     try clear c8
                     try clear c9
                     try clear c10
                     try clear c12
                     try clear c21
                     try clear c24
                     try clear c24b0
                     try clear c24b1
                     try clear c24b2
                     try clear c37
                     try clear c40
                     try clear c41
                     try clear c45
                     try clear c46
                     try clear c46b0
                     try clear c47
                     try clear c47b0
                     try clear c48
                     try clear c48b0
                     try clear c49
                     try clear c49b0
                     try clear c50
                     try clear c50b0
                     try clear c51
                     try clear c56
                     try clear p56
                     try clear q56
                     try clear hx56
                     try clear c58
                     try clear p58
                     try clear q58
                     try clear hx58
                     try clear c64
                     try clear p64
                     try clear c66
                     try clear c68
                     try clear c69
                     try clear c70
                     try clear c70b0
                     try clear c70b1
                     try clear c71
                     try clear c71b0
                     try clear c71b1
                     try clear c72
                     try clear c72b0
                     try clear c72b1
                     try clear c74
                     try clear c78
                     try clear c82
                     try clear c86
                     try clear c90
                     try clear c92
                     try clear c92b0
                     try clear c93
                     try clear c93b0
                     try clear c94
                     try clear c94b0
                     try clear c96
                     try clear c97
                     try clear c97b0
                     try clear c97b1
                     try clear c99
                     try clear c100
                     try clear c102
                     try clear c107
                     try clear c107b0
                     try clear c108
                     try clear c108b0
                     try clear c109
                     try clear c109b0
                     try clear hcz101_0
                     try clear hcz101_1
                     try clear hcz103_0
                     try clear hcz103_1
                     try clear hcz106_0
                     try clear hcz106_1
                     try clear hcz43_0
                     try clear hcz43_1
                     try clear hcz57_0
                     try clear hcz57_1
                     try clear hcz60_0
                     try clear hcz60_1
                     try clear hcz65_0
                     try clear hcz75_0
                     try clear hcz76_0
                     try clear hcz76_1
                     try clear hcz79_0
                     try clear hcz80_0
                     try clear hcz80_1
                     try clear hcz83_0
                     try clear hcz84_0
                     try clear hcz84_1
                     try clear hcz87_0
                     try clear hfz101_0
                     try clear hfz101_1
                     try clear hfz103_0
                     try clear hfz103_1
                     try clear hfz106_0
                     try clear hfz106_1
                     try clear hfz43_0
                     try clear hfz43_1
                     try clear hfz57_0
                     try clear hfz57_1
                     try clear hfz60_0
                     try clear hfz60_1
                     try clear hfz65_0
                     try clear hfz75_0
                     try clear hfz76_0
                     try clear hfz76_1
                     try clear hfz79_0
                     try clear hfz80_0
                     try clear hfz80_1
                     try clear hfz83_0
                     try clear hfz84_0
                     try clear hfz84_1
                     try clear hfz87_0
                     try clear hx566_0
                     try clear hx567_0
                     try clear hx567_1
                     try clear hx581_0
                     try clear hx581_1
                     try clear hx587_0
                     try clear p2
                     try clear p5
                     try clear p56
                     try clear p566
                     try clear p567
                     try clear p58
                     try clear p581
                     try clear p587
                     try clear p6
                     try clear p64
                     try clear q5
                     try clear q56
                     try clear q566
                     try clear q567
                     try clear q58
                     try clear q581
                     try clear q587
                     obtain ⟨x28_6,x191_6,rfl,rfl,HA,HK6,HO_24,HO_160,HO_580000,BK546,BK579,BK582,HR581_1,HB⟩:=hrel
                     cases gk with
                     | zero=>exact absurd HA.out (by simp [laws_FnMsr.l3])
                     | succ k6 =>
                      have H:=HA.out
                      clear HA
                      simp only [laws_FnMsr.l3] at H
                      by_cases c110:x191_6 < (t583.length:Int)
                      ·rw [if_pos c110] at H
                       have c110b0:=decide_eq_true c110
                       clear c110
                       by_cases c111:0≤x191_6
                       ·rw [if_pos c111] at H
                        have c111b0:=decide_eq_true c111
                        clear c111
                        by_cases c112:x191_6 < (t583.length:Int)
                        ·rw [if_pos c112] at H
                         have c112b0:=decide_eq_true c112
                         clear c112
                         by_cases c113:x191_6 < (t575.length:Int)
                         ·rw [if_pos c113] at H
                          have c113b0:=decide_eq_true c113
                          clear c113
                          by_cases c114:0≤x184_5
                          ·rw [if_pos c114] at H
                           have c114b0:=decide_eq_true c114
                           clear c114
                           by_cases c115:x184_5 < ((rd_L3 t575 x191_6).length:Int)
                           ·rw [if_pos c115] at H
                            have c115b0:=decide_eq_true c115
                            clear c115
                            obtain ⟨t591,A116,H⟩:=yo H
                            have H':=am H
                            clear H
                            try go_wp2
                            replace HO_24:=am (Kd.R_drew HO_24.out)
                            replace HO_160:=am (Kd.N_drew HO_160.out)
                            replace HO_580000:=am (Kd.N_drew HO_580000.out)
                            replace BK546:=am (qd BK546.out)
                            replace BK579:=am (qd BK579.out)
                            replace BK582:=am (qd BK582.out)
                            replace HR581_1:=am (Kd.C_drew HR581_1.out)
                            replace HB:=am (pd HB.out)
                            have p588:0≤(x191_6:Int):=od D0
                            have q588:x191_6 < (t583.length:Int):=od D0
                            obtain ⟨ad588,e588,hx588_0⟩:=Kd.at_int (Kd.R_reads' HO_24.out).2.2 x191_6 p588 q588
                            cases e588
                            replace p588:=eq_true p588
                            replace q588:=eq_true q588
                            have p589:0≤(x191_6:Int):=od D0
                            have q589:x191_6 < (t575.length:Int):=od D0
                            obtain ⟨ad589,A589_0,c589_0,e589,hx589_0,hl589_0,hi589_0⟩:=at_L3 (Kd.N_reads' HO_580000.out).2.2 x191_6 p589 q589
                            cases e589
                            obtain ⟨ce589,hce589,hMe589,hcc589⟩:=Kd.N_get HO_580000.out [] x191_6 p589 (by first|exact q589|exact od D0|(have e_:=(Kd.N_reads' HO_580000.out).1;omega))
                            obtain ⟨ua589_0,uc589_0,rfl,ul589_0,ge589_0⟩:=Kd.FK_slice_open hMe589
                            have hv589_0:=hcc589 0 _ rfl
                            rw [Nat.add_zero,show ((Kd.slice 5 (Kd.int .u8))).sz=1 from rfl,Nat.mul_one] at hv589_0
                            replace hv589_0:=Option.some.inj (hv589_0.symm.trans hx589_0)
                            injection hv589_0 with hva_ hvn_ hvc_
                            rw [hva_] at ge589_0
                            rw [hvc_] at ul589_0
                            have HL589_0:=am (show Kd.V (Kd.int .u8) 5 _ w.heap.size _ _ (rd_L3 t575 x191_6) from Kd.V_mk ul589_0 ge589_0)
                            clear hva_ hvn_ hvc_ ge589_0 ul589_0
                            clear hcc589 hce589
                            have HR589_0:=am hi589_0
                            have HC589_0:=am hl589_0
                            clear hi589_0 hl589_0
                            replace p589:=eq_true p589
                            replace q589:=eq_true q589
                            have p590:0≤(x184_5:Int):=od D0
                            have q590:x184_5 < ((rd_L3 t575 x191_6).length:Int):=od D0
                            obtain ⟨ad590,e590,hx590_0⟩:=Kd.at_int (by repeat (first|(with_reducible exact HR589_0.out)|(with_reducible refine Kd.C_alloc ?_ _)|(with_reducible refine Kd.C_drewN ?_ _)|(with_reducible refine Kd.C_drew ?_)|exact HR589_0.out)) x184_5 p590 q590
                            cases e590
                            replace p590:=eq_true p590
                            replace q590:=eq_true q590
                            refine rS (n:=16) (S:=fun w'=>w'.cell? ⟨gb579,0,none⟩=some (.slice (some ad589) t575.length co63)∧w'.cell? (ad588.add (x191_6).toNat)=some (.int .u8 (rd t583 x191_6))∧w'.cell? (ad589.add (x191_6).toNat)=some (.slice (some ad590) (rd_L3 t575 x191_6).length c589_0)∧w'.cell? (ad590.add (x184_5).toNat)=some (.int .u8 (rd (rd_L3 t575 x191_6) x184_5))) (ds:=[]) [(0,194),(1,195),(2,196),(3,197),(5,199),(7,201),(10,204),(4,198),(6,200),(8,202),(9,203),(11,205),(12,206),(13,0),(14,208),(15,28)] D5 rfl laws_FnMsr.tab33 laws_FnMsr.bits33 ⟨yk BK579 0,hx588_0,hx589_0,hx590_0⟩ (fun hHeld HT_ HW_=>?_)
                            generalize wr.drew=w117 at HO_24 HO_160 HO_580000 BK546 BK579 BK582 HR581_1 HB HL589_0 HR589_0 hx588_0 hx589_0 hx590_0 hHeld ⊢
                            refine rR ?_
                            refine rO (N:=some 207) HT_ rfl rfl D5 D8 (fun K hK=>?_)
                            refine goes_ Try.func51 D5 rfl #[.int .u8 (rd t583 x191_6), .int .u8 (rd (rd_L3 t575 x191_6) x184_5)] D15 rfl rfl D10 ?_
                            with_reducible refine (impl_Times.calls k6 (rd t583 x191_6) (rd (rd_L3 t575 x191_6) x184_5) t591 _ A116.out).mono ?_
                            rintro e w' ⟨rfl,⟨nd,rfl⟩⟩
                            refine ⟨_,rfl,?_⟩
                            refine hK.out _ _ ⟨yk BK579 0,hHeld.2.1,hHeld.2.2.1,hHeld.2.2.2⟩ (fun hHeld=>?_)
                            clear hK K
                            refine rN (nA 207) ?_
                            refine rR ?_
                            refine rD HT_ D5 ?_
                            try go_wp2
                            go_roundg k6
                            case measure=>have:=HJ7.out;have:=HK2.out;have:=HJ55.out;have:=HK4.out;have:=HK5.out;have:=HK6.out;omega
                            case rel=>exact ⟨(Go.bits .xor .u8 x28_6 t591),(wrap64 (x191_6+1)),D1,D1,H',⟨by have:=HJ7.out;have:=HK2.out;have:=HJ55.out;have:=HK4.out;have:=HK5.out;have:=HK6.out;omega⟩,⟨yR HO_24⟩,⟨yN HO_160⟩,⟨yN HO_580000⟩,⟨yB BK546⟩,⟨yB BK579⟩,⟨yB BK582⟩,⟨D25⟩,⟨yW HB⟩⟩
                           rw [if_neg c115] at H
                           exact absurd H D43
                          rw [if_neg c114] at H
                          exact absurd H D43
                         rw [if_neg c113] at H
                         exact absurd H D43
                        rw [if_neg c112] at H
                        exact absurd H D43
                       rw [if_neg c111] at H
                       exact absurd H D43
                      rw [if_neg c110] at H
                      have c110b0:=decide_eq_false c110
                      clear c110
                      by_cases c118:x28_6=(rd ((rd_T76 t547 x162_4).f1) x184_5)
                      ·rw [if_pos c118] at H
                       have c118b0:(x28_6 == (rd ((rd_T76 t547 x162_4).f1) x184_5))=true:=beq_iff_eq.mpr c118
                       have c118b1:(x28_6 != (rd ((rd_T76 t547 x162_4).f1) x184_5))=false:=bne_eq_false_iff_eq.mpr c118
                       clear c118
                       have H':=am H
                       clear H
                       go_wp2
                       go_roundg k6
                       case measure=>have:=HJ7.out;have:=HK2.out;have:=HJ55.out;have:=HK4.out;have:=HK5.out;have:=HK6.out;omega
                       case rel=>exact ⟨(wrap64 (x184_5+1)),D1,H',⟨by have:=HJ7.out;have:=HK2.out;have:=HJ55.out;have:=HK4.out;have:=HK5.out;have:=HK6.out;omega⟩,⟨yR HO_24⟩,⟨yN HO_160⟩,⟨yN HO_580000⟩,⟨yB BK546⟩,⟨yB BK579⟩,⟨yB BK582⟩,⟨D25⟩,⟨yW HB⟩⟩
                      rw [if_neg c118] at H
                      have c118b0:(x28_6 == (rd ((rd_T76 t547 x162_4).f1) x184_5))=false:=beq_eq_false_iff_ne.mpr c118
                      have c118b1:(x28_6 != (rd ((rd_T76 t547 x162_4).f1) x184_5))=true:=bne_iff_ne.mpr c118
                      obtain rfl:=Option.some.inj H
                      go_wp2
                      go_ret
                      exact ⟨D2,yW HB⟩
                   rw [if_neg c109] at H
                   exact absurd H D43
                  rw [if_neg c108] at H
                  exact absurd H D43
                 rw [if_neg c107] at H
                 have c107b0:=decide_eq_false c107
                 clear c107
                 have H':=am H
                 clear H
                 go_wp2
                 go_roundg k5
                 case measure=>have:=HJ7.out;have:=HK2.out;have:=HJ55.out;have:=HK4.out;have:=HK5.out;omega
                 case rel=>exact ⟨(wrap64 (x162_4+1)),D1,H',⟨by have:=HJ7.out;have:=HK2.out;have:=HJ55.out;have:=HK4.out;have:=HK5.out;omega⟩,⟨by refine sN ?_;exact Kd.N_mono HO_160.out (fun _ hk=>⟨hk.2.1,⟨hk.2.2.1,hk.2.2.2.1⟩⟩)⟩,⟨by refine sN ?_;exact Kd.N_mono HO_580000.out (fun _ hk=>⟨hk.2.1,⟨hk.2.2.1,hk.2.2.2.1⟩⟩)⟩,⟨yB BK546⟩,⟨yB BK579⟩,⟨yW HB⟩⟩
              rw [if_neg c97] at H
              have c97b0:((t583.length:Int) == t556)=false:=beq_eq_false_iff_ne.mpr c97
              have c97b1:((t583.length:Int) != t556)=true:=bne_iff_ne.mpr c97
              obtain rfl:=Option.some.inj H
              have p581:0≤(x162_4:Int):=od D0
              have q581:x162_4 < (t547.length:Int):=od D0
              obtain ⟨ad581,A581_1,c581_1,e581,hx581_0,hx581_1,hl581_1,hi581_1⟩:=at_T76 (Kd.N_reads' HO_160.out).2.2 x162_4 p581 q581
              cases e581
              obtain ⟨ce581,hce581,hMe581,hcc581⟩:=Kd.N_get HO_160.out z76 x162_4 p581 D100
              obtain ⟨ua581_1,uc581_1,rfl,ul581_1,ge581_1⟩:=k76_openF hMe581
              have hv581_1:=hcc581 1 _ rfl
              rw [add_field _ _ 1 D11] at hv581_1
              replace hv581_1:=Option.some.inj (hv581_1.symm.trans hx581_1)
              injection hv581_1 with hva_ hvn_ hvc_
              rw [hva_] at ge581_1
              rw [hvc_] at ul581_1
              have HL581_1:=am (show Kd.V (Kd.int .u8) 5 _ w.heap.size _ _ ((rd_T76 t547 x162_4).f1) from Kd.V_mk ul581_1 ge581_1)
              clear hva_ hvn_ hvc_ ge581_1 ul581_1
              clear hcc581 hce581
              have HR581_1:=am hi581_1
              have HC581_1:=am hl581_1
              clear hi581_1 hl581_1
              replace p581:=eq_true p581
              replace q581:=eq_true q581
              go_wp2_with (first|((with_reducible refine gD 23 ?_);(try (refine gate_guard D15 ?_;dsimp only));refine gB (cs:=#[.int .i64 0, .slice none 0 0]) 76 ?_;intro gb582 hg w119 hbox hb;replace HO_160:=oN HO_160 hg hb;replace HO_580000:=oN HO_580000 hg hb;replace HL581_1:=am (Kd.V_below (Kd.V_elderB (yV HL581_1) gb582 (Nat.le_of_eq hg.symm)) hb);replace HR581_1:=am (Kd.C_below D25 hb);have BK582:=am (hbox);have GW582:=ye HB hg;replace HB:=yH HB hb;have NB546_582:=yl BK546 hg;have NB582_546:=yg BK546 hg;replace BK546:=yb BK546 hb;have NB579_582:=yl BK579 hg;have NB582_579:=yg BK579 hg;replace BK579:=yb BK579 hb;have GE582:=GW582;clear hb hbox hg;have hnb120:=NB582_546.out;have hnc120:=NB546_582.out;have hnb121:=NB582_579.out;have hnc121:=NB579_582.out;obtain ⟨hcz122_0,hcz122_1,hfz122_0,hfz122_1⟩:=yk2 BK582;have hnb123:=NB546_579.out;have hnc123:=NB579_546.out;obtain ⟨hcz124_0,hcz124_1,hfz124_0,hfz124_1⟩:=yk2 BK546)|((with_reducible refine gC 50 ?_);refine gM (some 170) Try.func50 (args:=#[.agg #[.int .i64 t541, .int .i64 t542], .int .i64 x162_4]) (impl_MsrRow.calls k4 t541 t542 x162_4 t583 true _ A95.out) ?_;rintro e w125 ⟨v584,rfl,ho0,hb⟩;refine ⟨_,rfl,?_⟩;replace HO_160:=am (Kd.N_elder' D40 (Kd.R_base ho0) hb);replace HO_580000:=am (Kd.N_elder' D39 (Kd.R_base ho0) hb);have HO585:=am (Kd.R_lower ho0 (pz (yW HB)));replace BK546:=am (qb (g:=gb546) (o:=.cells #[.int .i64 t541, .int .i64 t542] 30 (0,0)) (yF BK546) hb);replace BK579:=am (qb (g:=gb579) (o:=.cells #[.slice Ao63 t575.length co63] 27 (0,0)) (yF BK579) hb);replace HR581_1:=am (Kd.C_below ((Kd.V_reads' D16).2.2) hb);replace HL581_1:=am (Kd.V_elder' D16 (Kd.R_base ho0) hb);replace BK582:=am (qb (g:=gb582) (o:=.cells #[.int .i64 ((rd_T76 t547 x162_4).f0), .slice A581_1 ((rd_T76 t547 x162_4).f1).length c581_1] 76 (0,0)) D52 hb);replace HB:=yH HB hb;clear hb ho0;obtain ⟨Ao126,co126,eo126⟩:=Kd.R_slice HO585.out;subst eo126))
              go_ret
              exact ⟨D2,yW HB⟩
             replace c96:=Bool.eq_false_iff.mpr c96
             subst c96
             replace H:=yn H
             obtain rfl:=Option.some.inj H
             have p581:0≤(x162_4:Int):=od D0
             have q581:x162_4 < (t547.length:Int):=od D0
             obtain ⟨ad581,A581_1,c581_1,e581,hx581_0,hx581_1,hl581_1,hi581_1⟩:=at_T76 (Kd.N_reads' HO_160.out).2.2 x162_4 p581 q581
             cases e581
             obtain ⟨ce581,hce581,hMe581,hcc581⟩:=Kd.N_get HO_160.out z76 x162_4 p581 D100
             obtain ⟨ua581_1,uc581_1,rfl,ul581_1,ge581_1⟩:=k76_openF hMe581
             have hv581_1:=hcc581 1 _ rfl
             rw [add_field _ _ 1 D11] at hv581_1
             replace hv581_1:=Option.some.inj (hv581_1.symm.trans hx581_1)
             injection hv581_1 with hva_ hvn_ hvc_
             rw [hva_] at ge581_1
             rw [hvc_] at ul581_1
             have HL581_1:=am (show Kd.V (Kd.int .u8) 5 _ w.heap.size _ _ ((rd_T76 t547 x162_4).f1) from Kd.V_mk ul581_1 ge581_1)
             clear hva_ hvn_ hvc_ ge581_1 ul581_1
             clear hcc581 hce581
             have HR581_1:=am hi581_1
             have HC581_1:=am hl581_1
             clear hi581_1 hl581_1
             replace p581:=eq_true p581
             replace q581:=eq_true q581
             go_wp2_with (first|((with_reducible refine gD 23 ?_);(try (refine gate_guard D15 ?_;dsimp only));refine gB (cs:=#[.int .i64 0, .slice none 0 0]) 76 ?_;intro gb582 hg w127 hbox hb;replace HO_160:=oN HO_160 hg hb;replace HO_580000:=oN HO_580000 hg hb;replace HL581_1:=am (Kd.V_below (Kd.V_elderB (yV HL581_1) gb582 (Nat.le_of_eq hg.symm)) hb);replace HR581_1:=am (Kd.C_below D25 hb);have BK582:=am (hbox);have GW582:=ye HB hg;replace HB:=yH HB hb;have NB546_582:=yl BK546 hg;have NB582_546:=yg BK546 hg;replace BK546:=yb BK546 hb;have NB579_582:=yl BK579 hg;have NB582_579:=yg BK579 hg;replace BK579:=yb BK579 hb;have GE582:=GW582;clear hb hbox hg;have hnb128:=NB582_546.out;have hnc128:=NB546_582.out;have hnb129:=NB582_579.out;have hnc129:=NB579_582.out;obtain ⟨hcz130_0,hcz130_1,hfz130_0,hfz130_1⟩:=yk2 BK582;have hnb131:=NB546_579.out;have hnc131:=NB579_546.out;obtain ⟨hcz132_0,hcz132_1,hfz132_0,hfz132_1⟩:=yk2 BK546)|((with_reducible refine gC 50 ?_);refine gM (some 170) Try.func50 (args:=#[.agg #[.int .i64 t541, .int .i64 t542], .int .i64 x162_4]) (impl_MsrRow.calls k4 t541 t542 x162_4 t583 false _ A95.out) ?_;rintro e w133 ⟨v584,rfl,ho0,hb⟩;refine ⟨_,rfl,?_⟩;replace HO_160:=am (Kd.N_elder' D40 (Kd.R_base ho0) hb);replace HO_580000:=am (Kd.N_elder' D39 (Kd.R_base ho0) hb);have HO585:=am (Kd.R_lower ho0 (pz (yW HB)));replace BK546:=am (qb (g:=gb546) (o:=.cells #[.int .i64 t541, .int .i64 t542] 30 (0,0)) (yF BK546) hb);replace BK579:=am (qb (g:=gb579) (o:=.cells #[.slice Ao63 t575.length co63] 27 (0,0)) (yF BK579) hb);replace HR581_1:=am (Kd.C_below ((Kd.V_reads' D16).2.2) hb);replace HL581_1:=am (Kd.V_elder' D16 (Kd.R_base ho0) hb);replace BK582:=am (qb (g:=gb582) (o:=.cells #[.int .i64 ((rd_T76 t547 x162_4).f0), .slice A581_1 ((rd_T76 t547 x162_4).f1).length c581_1] 76 (0,0)) D52 hb);replace HB:=yH HB hb;clear hb ho0))
             go_ret
             exact ⟨D2,yW HB⟩
            rw [if_neg c94] at H
            exact absurd H D43
           rw [if_neg c93] at H
           exact absurd H D43
          rw [if_neg c92] at H
          have c92b0:=decide_eq_false c92
          clear c92
          obtain ⟨⟨t592,t593,t594⟩,A134,H⟩:=yo H
          try dsimp only at H
          obtain ⟨⟨t598,t601⟩,A135,H⟩:=yo H
          try dsimp only at H
          obtain ⟨⟨t602,t605⟩,A136,H⟩:=yo H
          try dsimp only at H
          by_cases c137:(t601 == t605)=true
          ·rw [if_pos c137] at H
           have c137b0:(t601 == t605)=true:=c137
           (try (have c137b1:decide (t601=t605)=true:=by simpa using c137))
           (try (have c137b2:(t601 == t605)=true:=by simpa using c137))
           clear c137
           obtain ⟨t606,A138,H⟩:=yo H
           obtain rfl:=Option.some.inj H
           go_wp2_with (first|((with_reducible refine gC 52 ?_);refine gM (some 217) Try.func52 (args:=#[.slice A1 l1.length c1]) (spec_DrawDecodeMsr.calls k4 _ _ l1 t592 t593 t594 _ (yc (Kd.C_below HR1.out HB.out)) HC1.out A134.out) ?_;rintro e w139 ⟨v595,rfl,ho0,hb⟩;refine ⟨_,rfl,?_⟩;have HO596:=am (Kd.N_lower (Kd.N_mono (ok':=fun k_=>some k_ ≠ (.slice Ao91 t547.length co91:Value).ownBlock∧some k_ ≠ (.slice Ao63 t575.length co63:Value).ownBlock∧k_ ≠ gb546∧k_ ≠ gb579) ho0 (fun k_ hk_=>⟨(Kd.fresh' (Kd.N_lt (yN HO_160)) k_ hk_),(Kd.fresh' (Kd.N_lt (yN HO_580000)) k_ hk_),(yz BK546 k_ hk_),(yz BK579 k_ hk_)⟩)) (pz (yW HB)));replace HO_160:=eN HO_160 D26 hb;replace HO_580000:=eN HO_580000 D26 hb;replace BK546:=yb BK546 hb;replace BK579:=yb BK579 hb;replace HB:=yH HB hb;clear hb ho0)|((with_reducible refine gD 30 ?_);(try (refine gate_guard D15 ?_;dsimp only));refine gB (cs:=#[.int .i64 0, .int .i64 0]) 30 ?_;intro gb597 hg w140 hbox hb;replace HO_160:=oN HO_160 hg hb;replace HO_580000:=oN HO_580000 hg hb;replace HO596:=oN HO596 hg hb;have BK597:=am (hbox);have GW597:=ye HB hg;replace HB:=yH HB hb;have NB546_597:=yl BK546 hg;have NB597_546:=yg BK546 hg;replace BK546:=yb BK546 hb;have NB579_597:=yl BK579 hg;have NB597_579:=yg BK579 hg;replace BK579:=yb BK579 hb;have GE597:=GW597;clear hb hbox hg;have hnb141:=NB597_546.out;have hnc141:=NB546_597.out;have hnb142:=NB597_579.out;have hnc142:=NB579_597.out;obtain ⟨hcz143_0,hcz143_1,hfz143_0,hfz143_1⟩:=yk2 BK597;obtain ⟨Ao144,co144,eo144⟩:=Kd.N_slice HO596.out;subst eo144)|((with_reducible refine gC 48 ?_);refine gM (some 223) Try.func48 (args:=#[.agg #[.int .i64 t592, .int .i64 t593], .slice Ao144 t594.length co144]) (impl_DecodeMsr.calls k4 t592 t593 _ _ t594 t598 t601 _ ?side1 ?side2 A135.out) ?_;(case side1=>refine (Kd.N_reads' (e:=76) (base:=w.heap.size) (ok:=fun k_=>((some k_ ≠ (.slice Ao91 t547.length co91:Value).ownBlock∧(some k_ ≠ (.slice Ao63 t575.length co63:Value).ownBlock∧(k_ ≠ gb546∧k_ ≠ gb579)))∧k_ ≠ gb597)) (n:=t594.length) (c:=co144) ?_).2.2;exact D31);(case side2=>exact (Kd.N_reads' HO596.out).2.1);rintro e w145 ⟨v599,rfl,ho0,hb⟩;refine ⟨_,rfl,?_⟩;replace HO_160:=am (Kd.N_elder' D66 (Kd.R_base ho0) hb);replace HO_580000:=am (Kd.N_elder' D65 (Kd.R_base ho0) hb);replace HO596:=am (Kd.N_elder' D31 (Kd.R_base ho0) hb);have HO600:=am (Kd.R_lower ho0 (pz (yW HB)));replace BK546:=am (qb (g:=gb546) (o:=.cells #[.int .i64 t541, .int .i64 t542] 30 (0,0)) (yF BK546) hb);replace BK579:=am (qb (g:=gb579) (o:=.cells #[.slice Ao63 t575.length co63] 27 (0,0)) (yF BK579) hb);replace BK597:=am (qb (g:=gb597) (o:=.cells #[.int .i64 t592, .int .i64 t593] 30 (0,0)) D89 hb);replace HB:=yH HB hb;clear hb ho0;obtain ⟨hcz146_0,hcz146_1,hfz146_0,hfz146_1⟩:=yk2 BK597)|((with_reducible refine gC 53 ?_);refine gM (some 229) Try.func53 (args:=#[.agg #[.int .i64 t592, .int .i64 t593], .slice Ao144 t594.length co144]) (spec_DecodeMsr.calls k4 t592 t593 _ _ t594 t602 t605 _ (yc (Kd.N_reads' HO596.out).2.2) (Kd.N_reads' HO596.out).2.1 A136.out) ?_;rintro e w147 ⟨v603,rfl,ho0,hb⟩;refine ⟨_,rfl,?_⟩;replace HO_160:=eN HO_160 (Kd.R_base ho0) hb;replace HO_580000:=eN HO_580000 (Kd.R_base ho0) hb;replace HO596:=eN HO596 (Kd.R_base ho0) hb;have HO604:=am (Kd.R_lower (Kd.R_new' ho0 (Kd.R_lt (yR HO600))) (pz (yW HB)));replace HO600:=eR HO600 (Kd.R_base ho0) hb;replace BK546:=yb BK546 hb;replace BK579:=yb BK579 hb;replace BK597:=yb BK597 hb;replace HB:=yH HB hb;clear hb ho0;obtain ⟨Ao148,co148,eo148⟩:=Kd.R_slice HO600.out;subst eo148;obtain ⟨Ao149,co149,eo149⟩:=Kd.R_slice HO604.out;subst eo149)|(go_at_call 49;(with_reducible refine (laws_sameBytes.calls _ _ t598 _ _ t602 t606 _ (yc (Kd.R_reads' HO600.out).2.2) (Kd.R_reads' HO600.out).2.1 (yc (Kd.R_reads' HO604.out).2.2) (Kd.R_reads' HO604.out).2.1 A138.out).mono ?_);rintro e w' ⟨rfl,⟨nd,rfl⟩⟩))
           go_ret
           exact ⟨D2,yW HB⟩
          rw [if_neg c137] at H
          have c137b0:(t601 == t605)=false:=by simpa using c137
          (try (have c137b1:decide (t601=t605)=false:=by simpa using c137))
          (try (have c137b2:(t601 == t605)=false:=by simpa using c137))
          (try (have c137b3:¬ (t601=t605):=by simpa using c137))
          clear c137
          obtain rfl:=Option.some.inj H
          go_wp2_with (first|((with_reducible refine gC 52 ?_);refine gM (some 217) Try.func52 (args:=#[.slice A1 l1.length c1]) (spec_DrawDecodeMsr.calls k4 _ _ l1 t592 t593 t594 _ (yc (Kd.C_below HR1.out HB.out)) HC1.out A134.out) ?_;rintro e w150 ⟨v595,rfl,ho0,hb⟩;refine ⟨_,rfl,?_⟩;have HO596:=am (Kd.N_lower (Kd.N_mono (ok':=fun k_=>some k_ ≠ (.slice Ao91 t547.length co91:Value).ownBlock∧some k_ ≠ (.slice Ao63 t575.length co63:Value).ownBlock∧k_ ≠ gb546∧k_ ≠ gb579) ho0 (fun k_ hk_=>⟨(Kd.fresh' (Kd.N_lt (yN HO_160)) k_ hk_),(Kd.fresh' (Kd.N_lt (yN HO_580000)) k_ hk_),(yz BK546 k_ hk_),(yz BK579 k_ hk_)⟩)) (pz (yW HB)));replace HO_160:=eN HO_160 D26 hb;replace HO_580000:=eN HO_580000 D26 hb;replace BK546:=yb BK546 hb;replace BK579:=yb BK579 hb;replace HB:=yH HB hb;clear hb ho0)|((with_reducible refine gD 30 ?_);(try (refine gate_guard D15 ?_;dsimp only));refine gB (cs:=#[.int .i64 0, .int .i64 0]) 30 ?_;intro gb597 hg w151 hbox hb;replace HO_160:=oN HO_160 hg hb;replace HO_580000:=oN HO_580000 hg hb;replace HO596:=oN HO596 hg hb;have BK597:=am (hbox);have GW597:=ye HB hg;replace HB:=yH HB hb;have NB546_597:=yl BK546 hg;have NB597_546:=yg BK546 hg;replace BK546:=yb BK546 hb;have NB579_597:=yl BK579 hg;have NB597_579:=yg BK579 hg;replace BK579:=yb BK579 hb;have GE597:=GW597;clear hb hbox hg;have hnb152:=NB597_546.out;have hnc152:=NB546_597.out;have hnb153:=NB597_579.out;have hnc153:=NB579_597.out;obtain ⟨hcz154_0,hcz154_1,hfz154_0,hfz154_1⟩:=yk2 BK597;obtain ⟨Ao155,co155,eo155⟩:=Kd.N_slice HO596.out;subst eo155)|((with_reducible refine gC 48 ?_);refine gM (some 223) Try.func48 (args:=#[.agg #[.int .i64 t592, .int .i64 t593], .slice Ao155 t594.length co155]) (impl_DecodeMsr.calls k4 t592 t593 _ _ t594 t598 t601 _ ?side1 ?side2 A135.out) ?_;(case side1=>refine (Kd.N_reads' (e:=76) (base:=w.heap.size) (ok:=fun k_=>((some k_ ≠ (.slice Ao91 t547.length co91:Value).ownBlock∧(some k_ ≠ (.slice Ao63 t575.length co63:Value).ownBlock∧(k_ ≠ gb546∧k_ ≠ gb579)))∧k_ ≠ gb597)) (n:=t594.length) (c:=co155) ?_).2.2;exact D31);(case side2=>exact (Kd.N_reads' HO596.out).2.1);rintro e w156 ⟨v599,rfl,ho0,hb⟩;refine ⟨_,rfl,?_⟩;replace HO_160:=am (Kd.N_elder' D66 (Kd.R_base ho0) hb);replace HO_580000:=am (Kd.N_elder' D65 (Kd.R_base ho0) hb);replace HO596:=am (Kd.N_elder' D31 (Kd.R_base ho0) hb);have HO600:=am (Kd.R_lower ho0 (pz (yW HB)));replace BK546:=am (qb (g:=gb546) (o:=.cells #[.int .i64 t541, .int .i64 t542] 30 (0,0)) (yF BK546) hb);replace BK579:=am (qb (g:=gb579) (o:=.cells #[.slice Ao63 t575.length co63] 27 (0,0)) (yF BK579) hb);replace BK597:=am (qb (g:=gb597) (o:=.cells #[.int .i64 t592, .int .i64 t593] 30 (0,0)) D89 hb);replace HB:=yH HB hb;clear hb ho0;obtain ⟨hcz157_0,hcz157_1,hfz157_0,hfz157_1⟩:=yk2 BK597)|((with_reducible refine gC 53 ?_);refine gM (some 229) Try.func53 (args:=#[.agg #[.int .i64 t592, .int .i64 t593], .slice Ao155 t594.length co155]) (spec_DecodeMsr.calls k4 t592 t593 _ _ t594 t602 t605 _ (yc (Kd.N_reads' HO596.out).2.2) (Kd.N_reads' HO596.out).2.1 A136.out) ?_;rintro e w158 ⟨v603,rfl,ho0,hb⟩;refine ⟨_,rfl,?_⟩;replace HO_160:=eN HO_160 (Kd.R_base ho0) hb;replace HO_580000:=eN HO_580000 (Kd.R_base ho0) hb;replace HO596:=eN HO596 (Kd.R_base ho0) hb;have HO604:=am (Kd.R_lower (Kd.R_new' ho0 (Kd.R_lt (yR HO600))) (pz (yW HB)));replace HO600:=eR HO600 (Kd.R_base ho0) hb;replace BK546:=yb BK546 hb;replace BK579:=yb BK579 hb;replace BK597:=yb BK597 hb;replace HB:=yH HB hb;clear hb ho0))
          go_ret
          exact ⟨D2,yW HB⟩
   replace c41:=Bool.eq_false_iff.mpr c41
   subst c41
   replace H:=yn H
   obtain ⟨⟨t607,t608,t609⟩,A159,H⟩:=yo H
   try dsimp only at H
   obtain ⟨⟨t613,t616⟩,A160,H⟩:=yo H
   try dsimp only at H
   obtain ⟨⟨t617,t620⟩,A161,H⟩:=yo H
   try dsimp only at H
   by_cases c162:(t616 == t620)=true
   ·rw [if_pos c162] at H
    have c162b0:(t616 == t620)=true:=c162
    (try (have c162b1:decide (t616=t620)=true:=by simpa using c162))
    (try (have c162b2:(t616 == t620)=true:=by simpa using c162))
    clear c162
    obtain ⟨t621,A163,H⟩:=yo H
    obtain rfl:=Option.some.inj H
    go_wp2_with (first|((with_reducible refine gC 52 ?_);refine gM (some 217) Try.func52 (args:=#[.slice A1 l1.length c1]) (spec_DrawDecodeMsr.calls kj7 _ _ l1 t607 t608 t609 _ (yc (Kd.C_below HR1.out HB.out)) HC1.out A159.out) ?_;rintro e w164 ⟨v610,rfl,ho0,hb⟩;refine ⟨_,rfl,?_⟩;have HO611:=am (Kd.N_lower (Kd.N_mono (ok':=fun k_=>some k_ ≠ (.slice Ao12 t543.length co12:Value).ownBlock∧some k_ ≠ (v548:Value).ownBlock∧k_ ≠ gb546) ho0 (fun k_ hk_=>⟨(Kd.fresh' (Kd.R_lt (yR HO_6)) k_ hk_),(Kd.fresh' (Kd.N_lt (yN HO_7)) k_ hk_),(yz BK546 k_ hk_)⟩)) (pz (yW HB)));replace HO_6:=bR HO_6 hb;replace HO_7:=eN HO_7 D26 hb;replace BK546:=yb BK546 hb;replace HB:=yH HB hb;clear hb ho0)|((with_reducible refine gD 30 ?_);(try (refine gate_guard D15 ?_;dsimp only));refine gB (cs:=#[.int .i64 0, .int .i64 0]) 30 ?_;intro gb612 hg w165 hbox hb;replace HO_6:=bR HO_6 hb;replace HO_7:=oN HO_7 hg hb;replace HO611:=oN HO611 hg hb;have BK612:=am (hbox);have GW612:=ye HB hg;replace HB:=yH HB hb;have NB546_612:=yl BK546 hg;have NB612_546:=yg BK546 hg;replace BK546:=yb BK546 hb;have GE612:=GW612;clear hb hbox hg;have hnb166:=NB612_546.out;have hnc166:=NB546_612.out;obtain ⟨hcz167_0,hcz167_1,hfz167_0,hfz167_1⟩:=yk2 BK612;obtain ⟨Ao168,co168,eo168⟩:=Kd.N_slice HO611.out;subst eo168)|((with_reducible refine gC 48 ?_);refine gM (some 223) Try.func48 (args:=#[.agg #[.int .i64 t607, .int .i64 t608], .slice Ao168 t609.length co168]) (impl_DecodeMsr.calls kj7 t607 t608 _ _ t609 t613 t616 _ ?side1 ?side2 A160.out) ?_;(case side1=>refine (Kd.N_reads' (e:=76) (base:=w.heap.size) (ok:=fun k_=>((some k_ ≠ (.slice Ao12 t543.length co12:Value).ownBlock∧(some k_ ≠ (v548:Value).ownBlock∧k_ ≠ gb546))∧k_ ≠ gb612)) (n:=t609.length) (c:=co168) ?_).2.2;exact D30);(case side2=>exact (Kd.N_reads' HO611.out).2.1);rintro e w169 ⟨v614,rfl,ho0,hb⟩;refine ⟨_,rfl,?_⟩;replace HO_7:=am (Kd.N_elder' D67 (Kd.R_base ho0) hb);replace HO611:=am (Kd.N_elder' D30 (Kd.R_base ho0) hb);have HO615:=am (Kd.R_lower (Kd.R_new' ho0 (Kd.R_lt D38)) (pz (yW HB)));replace HO_6:=am (Kd.R_elder' D38 (Kd.R_base ho0) hb);replace BK546:=am (qb (g:=gb546) (o:=.cells #[.int .i64 t541, .int .i64 t542] 30 (0,0)) (yF BK546) hb);replace BK612:=am (qb (g:=gb612) (o:=.cells #[.int .i64 t607, .int .i64 t608] 30 (0,0)) D88 hb);replace HB:=yH HB hb;clear hb ho0;obtain ⟨hcz170_0,hcz170_1,hfz170_0,hfz170_1⟩:=yk2 BK612)|((with_reducible refine gC 53 ?_);refine gM (some 229) Try.func53 (args:=#[.agg #[.int .i64 t607, .int .i64 t608], .slice Ao168 t609.length co168]) (spec_DecodeMsr.calls kj7 t607 t608 _ _ t609 t617 t620 _ (yc (Kd.N_reads' HO611.out).2.2) (Kd.N_reads' HO611.out).2.1 A161.out) ?_;rintro e w171 ⟨v618,rfl,ho0,hb⟩;refine ⟨_,rfl,?_⟩;replace HO_7:=eN HO_7 (Kd.R_base ho0) hb;replace HO611:=eN HO611 (Kd.R_base ho0) hb;have HO619:=am (Kd.R_lower (Kd.R_new' (Kd.R_new' ho0 (Kd.R_lt (yR HO_6))) (Kd.R_lt (yR HO615))) (pz (yW HB)));replace HO_6:=eR HO_6 (Kd.R_base ho0) hb;replace HO615:=eR HO615 (Kd.R_base ho0) hb;replace BK546:=yb BK546 hb;replace BK612:=yb BK612 hb;replace HB:=yH HB hb;clear hb ho0;obtain ⟨Ao172,co172,eo172⟩:=Kd.R_slice HO615.out;subst eo172;obtain ⟨Ao173,co173,eo173⟩:=Kd.R_slice HO619.out;subst eo173)|(go_at_call 49;(with_reducible refine (laws_sameBytes.calls _ _ t613 _ _ t617 t621 _ (yc (Kd.R_reads' HO615.out).2.2) (Kd.R_reads' HO615.out).2.1 (yc (Kd.R_reads' HO619.out).2.2) (Kd.R_reads' HO619.out).2.1 A163.out).mono ?_);rintro e w' ⟨rfl,⟨nd,rfl⟩⟩))
    go_ret
    exact ⟨D2,yW HB⟩
   rw [if_neg c162] at H
   have c162b0:(t616 == t620)=false:=by simpa using c162
   (try (have c162b1:decide (t616=t620)=false:=by simpa using c162))
   (try (have c162b2:(t616 == t620)=false:=by simpa using c162))
   (try (have c162b3:¬ (t616=t620):=by simpa using c162))
   clear c162
   obtain rfl:=Option.some.inj H
   go_wp2_with (first|((with_reducible refine gC 52 ?_);refine gM (some 217) Try.func52 (args:=#[.slice A1 l1.length c1]) (spec_DrawDecodeMsr.calls kj7 _ _ l1 t607 t608 t609 _ (yc (Kd.C_below HR1.out HB.out)) HC1.out A159.out) ?_;rintro e w174 ⟨v610,rfl,ho0,hb⟩;refine ⟨_,rfl,?_⟩;have HO611:=am (Kd.N_lower (Kd.N_mono (ok':=fun k_=>some k_ ≠ (.slice Ao12 t543.length co12:Value).ownBlock∧some k_ ≠ (v548:Value).ownBlock∧k_ ≠ gb546) ho0 (fun k_ hk_=>⟨(Kd.fresh' (Kd.R_lt (yR HO_6)) k_ hk_),(Kd.fresh' (Kd.N_lt (yN HO_7)) k_ hk_),(yz BK546 k_ hk_)⟩)) (pz (yW HB)));replace HO_6:=bR HO_6 hb;replace HO_7:=eN HO_7 D26 hb;replace BK546:=yb BK546 hb;replace HB:=yH HB hb;clear hb ho0)|((with_reducible refine gD 30 ?_);(try (refine gate_guard D15 ?_;dsimp only));refine gB (cs:=#[.int .i64 0, .int .i64 0]) 30 ?_;intro gb612 hg w175 hbox hb;replace HO_6:=bR HO_6 hb;replace HO_7:=oN HO_7 hg hb;replace HO611:=oN HO611 hg hb;have BK612:=am (hbox);have GW612:=ye HB hg;replace HB:=yH HB hb;have NB546_612:=yl BK546 hg;have NB612_546:=yg BK546 hg;replace BK546:=yb BK546 hb;have GE612:=GW612;clear hb hbox hg;have hnb176:=NB612_546.out;have hnc176:=NB546_612.out;obtain ⟨hcz177_0,hcz177_1,hfz177_0,hfz177_1⟩:=yk2 BK612;obtain ⟨Ao178,co178,eo178⟩:=Kd.N_slice HO611.out;subst eo178)|((with_reducible refine gC 48 ?_);refine gM (some 223) Try.func48 (args:=#[.agg #[.int .i64 t607, .int .i64 t608], .slice Ao178 t609.length co178]) (impl_DecodeMsr.calls kj7 t607 t608 _ _ t609 t613 t616 _ ?side1 ?side2 A160.out) ?_;(case side1=>refine (Kd.N_reads' (e:=76) (base:=w.heap.size) (ok:=fun k_=>((some k_ ≠ (.slice Ao12 t543.length co12:Value).ownBlock∧(some k_ ≠ (v548:Value).ownBlock∧k_ ≠ gb546))∧k_ ≠ gb612)) (n:=t609.length) (c:=co178) ?_).2.2;exact D30);(case side2=>exact (Kd.N_reads' HO611.out).2.1);rintro e w179 ⟨v614,rfl,ho0,hb⟩;refine ⟨_,rfl,?_⟩;replace HO_7:=am (Kd.N_elder' D67 (Kd.R_base ho0) hb);replace HO611:=am (Kd.N_elder' D30 (Kd.R_base ho0) hb);have HO615:=am (Kd.R_lower (Kd.R_new' ho0 (Kd.R_lt D38)) (pz (yW HB)));replace HO_6:=am (Kd.R_elder' D38 (Kd.R_base ho0) hb);replace BK546:=am (qb (g:=gb546) (o:=.cells #[.int .i64 t541, .int .i64 t542] 30 (0,0)) (yF BK546) hb);replace BK612:=am (qb (g:=gb612) (o:=.cells #[.int .i64 t607, .int .i64 t608] 30 (0,0)) D88 hb);replace HB:=yH HB hb;clear hb ho0;obtain ⟨hcz180_0,hcz180_1,hfz180_0,hfz180_1⟩:=yk2 BK612)|((with_reducible refine gC 53 ?_);refine gM (some 229) Try.func53 (args:=#[.agg #[.int .i64 t607, .int .i64 t608], .slice Ao178 t609.length co178]) (spec_DecodeMsr.calls kj7 t607 t608 _ _ t609 t617 t620 _ (yc (Kd.N_reads' HO611.out).2.2) (Kd.N_reads' HO611.out).2.1 A161.out) ?_;rintro e w181 ⟨v618,rfl,ho0,hb⟩;refine ⟨_,rfl,?_⟩;replace HO_7:=eN HO_7 (Kd.R_base ho0) hb;replace HO611:=eN HO611 (Kd.R_base ho0) hb;have HO619:=am (Kd.R_lower (Kd.R_new' (Kd.R_new' ho0 (Kd.R_lt (yR HO_6))) (Kd.R_lt (yR HO615))) (pz (yW HB)));replace HO_6:=eR HO_6 (Kd.R_base ho0) hb;replace HO615:=eR HO615 (Kd.R_base ho0) hb;replace BK546:=yb BK546 hb;replace BK612:=yb BK612 hb;replace HB:=yH HB hb;clear hb ho0))
   go_ret
   exact ⟨D2,yW HB⟩

/-- THE ONE PURE STATEMENT of laws_FnMsr: yours. -/
def laws_FnMsr.Pure:Prop:=∀ (l0:List Int) (l1:List Int),l0.length≤maxLen→l0.length*1≤140737488351232→(∀ x ∈ l0,(Lit.int .u8 x).wf=true)→l1.length≤maxLen→l1.length*1≤140737488351232→(∀ x ∈ l1,(Lit.int .u8 x).wf=true)→∃ k,laws_FnMsr.f k l0 l1=some true
open Go.RowKit Go.Proofs.YteflgifmdojahaaW.PrintWords Go.Proofs.YteflgifmdojahaaW.PrintLast Go.Proofs.YteflgifmdojahaaW.PrintMore
end Go.Proofs.Yteflgifmdojahaa.PFnMsr
-- SQUEEZED
