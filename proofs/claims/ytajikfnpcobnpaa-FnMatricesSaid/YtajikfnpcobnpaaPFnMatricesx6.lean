import Derived.Test.YtajikfnpcobnpaaVFnMatricesB
import Derived.Test.YtajikfnpcobnpaaPFnMatricesx0
import Derived.Test.YtajikfnpcobnpaaPFnMatricesx1
import Derived.Test.YtajikfnpcobnpaaPFnMatricesx2
import Derived.Test.YtajikfnpcobnpaaPFnMatricesx3
import Derived.Test.YtajikfnpcobnpaaPFnMatricesx4
import Derived.Test.YtajikfnpcobnpaaPFnMatricesx5
namespace Go.Proofs.Ytajikfnpcobnpaa.PFnMatrices
open Go.RowKit Go.Proofs.YtajikfnpcobnpaaW.PrintWords Go.Proofs.YtajikfnpcobnpaaW.PrintLast Go.Proofs.YtajikfnpcobnpaaW.PrintMore Go.Proofs.Ytajikfnpcobnpaa.KitS
attribute [local go_sem] max2_int min2_int max_two min_two max_three min_three max_four min_four
set_option linter.unusedVariables false
set_option maxHeartbeats 8000000
set_option maxRecDepth 100000
set_option linter.unusedSimpArgs false
mutual
def laws_FnMatrices.j0:Nat→List Int→List Int→Bool→Int→Bool→Bool→List (List Int)→List (List Int)→Option (Bool)
 | 0,_,_,_,_,_,_,_,_=>none
 | k+1,x1,x6,x8,x11,x12,x100,x365000,x370000=>if x100=true then (some false) else (if x12=true then ((impl_Transposed.f k x365000).bind fun bt381=>((impl_RankOf.f bt381.1).bind fun bt386=>(if bt381.2=true then (if bt386.2=true then (if bt386.1=x11 then (if 0 < (x365000.length:Int) then (if (x365000.length:Int)=((rd_L1 x365000 0).length:Int) then (laws_FnMatrices.j1 k x1 x6 x8 (x8 != (x11 == (x365000.length:Int))) x365000 x370000) else (laws_FnMatrices.j1 k x1 x6 x8 (x8 != false) x365000 x370000)) else (none)) else (laws_FnMatrices.j1 k x1 x6 x8 true x365000 x370000)) else (laws_FnMatrices.j1 k x1 x6 x8 true x365000 x370000)) else (laws_FnMatrices.j1 k x1 x6 x8 true x365000 x370000)))) else (laws_FnMatrices.j2 k x1 x6 x8 x365000 x370000))
def laws_FnMatrices.j2:Nat→List Int→List Int→Bool→List (List Int)→List (List Int)→Option (Bool)
 | 0,_,_,_,_,_=>none
 | k+1,x1,x6,x8,x365000,x370000=>if x8=true then ((impl_Product.f k x365000 x370000).bind fun bt389=>((impl_Product.f k x370000 x365000).bind fun bt394=>((impl_Identity.f k (x365000.length:Int)).bind fun bt399=>((impl_Solve.f k x365000 x6).bind fun bt404=>(if bt389.2=true then (if bt394.2=true then (if bt399.2=true then ((laws_sameMatrices.f k bt389.1 bt399.1).bind fun t408=>(if t408=true then ((laws_sameMatrices.f k bt394.1 bt399.1).bind fun t409=>(if t409=true then (laws_FnMatrices.j3 k x1 x6 bt404.1 bt404.2 (bt404.2 != ((x6.length:Int) == (x365000.length:Int))) x365000) else (laws_FnMatrices.j3 k x1 x6 bt404.1 bt404.2 true x365000))) else (laws_FnMatrices.j3 k x1 x6 bt404.1 bt404.2 true x365000))) else (laws_FnMatrices.j3 k x1 x6 bt404.1 bt404.2 true x365000)) else (laws_FnMatrices.j3 k x1 x6 bt404.1 bt404.2 true x365000)) else (laws_FnMatrices.j3 k x1 x6 bt404.1 bt404.2 true x365000)))))) else (laws_FnMatrices.j6 k x1)
def laws_FnMatrices.j6:Nat→List Int→Option (Bool)
 | 0,_=>none
 | k+1,x1=>(spec_DrawProduct.f k x1).bind fun bt414=>((impl_Product.f k bt414.1 bt414.2).bind fun bt422=>((spec_Product.f k bt414.1 bt414.2).bind fun bt427=>(if (bt422.2 != bt427.2)=true then (laws_FnMatrices.j7 k bt422.2 true bt414.1 bt414.2 bt422.1) else ((laws_sameMatrices.f k bt422.1 bt427.1).bind fun t432=>(laws_FnMatrices.j7 k bt422.2 (!t432) bt414.1 bt414.2 bt422.1)))))
def laws_FnMatrices.j7:Nat→Bool→Bool→List (List Int)→List (List Int)→List (List Int)→Option (Bool)
 | 0,_,_,_,_,_=>none
 | k+1,x34,x252,x421000,x422000,x427000=>if x252=true then (some false) else (if x34=true then ((impl_Transposed.f k x421000).bind fun bt433=>((impl_Transposed.f k x422000).bind fun bt438=>((impl_Product.f k bt438.1 bt433.1).bind fun bt443=>((impl_Transposed.f k x427000).bind fun bt448=>(if bt433.2=true then (if bt438.2=true then (if bt443.2=true then (if bt448.2=true then ((laws_sameMatrices.f k bt443.1 bt448.1).bind fun t453=>(laws_FnMatrices.j8 k t453)) else (laws_FnMatrices.j8 k false)) else (laws_FnMatrices.j8 k false)) else (laws_FnMatrices.j8 k false)) else (laws_FnMatrices.j8 k false)))))) else (some ((x427000.length:Int) == 0)))
def laws_FnMatrices.j8:Nat→Bool→Option (Bool)
 | 0,_=>none
 | k+1,x4=>some x4
def laws_FnMatrices.j3:Nat→List Int→List Int→List Int→Bool→Bool→List (List Int)→Option (Bool)
 | 0,_,_,_,_,_,_=>none
 | k+1,x1,x6,x25,x26,x200,x365000=>if x200=true then (some false) else (if x26=true then (laws_FnMatrices.l0 k x1 x6 x25 x365000 (x365000.length:Int) 0) else (laws_FnMatrices.j5 k x1))
def laws_FnMatrices.j5:Nat→List Int→Option (Bool)
 | 0,_=>none
 | k+1,x1=>laws_FnMatrices.j6 k x1
def laws_FnMatrices.l0:Nat→List Int→List Int→List Int→List (List Int)→Int→Int→Option (Bool)
 | 0,_,_,_,_,_,_=>none
 | k+1,x1,x6,x25,x203,x204,x205=>if x205 < x204 then (if 0≤x205 then (if x205 < (x203.length:Int) then ((impl_DotVectors.f k (rd_L1 x203 x205) x25).bind fun bt411=>(if bt411.2=true then (if x205 < (x6.length:Int) then (if bt411.1=(rd x6 x205) then (laws_FnMatrices.l0 k x1 x6 x25 x203 x204 (wrap64 (x205+1))) else (some false)) else (none)) else (some false))) else (none)) else (none)) else (laws_FnMatrices.j5 k x1)
def laws_FnMatrices.j1:Nat→List Int→List Int→Bool→Bool→List (List Int)→List (List Int)→Option (Bool)
 | 0,_,_,_,_,_,_=>none
 | k+1,x1,x6,x8,x142,x365000,x370000=>if x142=true then (some false) else (laws_FnMatrices.j2 k x1 x6 x8 x365000 x370000)
end
def laws_FnMatrices.f (k:Nat) (l0:List Int) (l1:List Int):Option (Bool):=if (wrap64 ((l0.length:Int)+(l1.length:Int))) > 1048576 then (some true) else ((spec_DrawSolve.f k l0).bind fun bt358=>((impl_InverseOf.f bt358.1).bind fun bt365=>((spec_InverseOf.f k bt358.1).bind fun bt370=>((impl_RankOf.f bt358.1).bind fun bt375=>((spec_RankOf.f k bt358.1).bind fun bt377=>(if (bt365.2 != bt370.2)=true then (laws_FnMatrices.j0 k l1 bt358.2 bt365.2 bt375.1 bt375.2 true bt358.1 bt365.1) else ((laws_sameMatrices.f k bt365.1 bt370.1).bind fun t379=>(if t379=true then (if (bt375.2 != bt377.2)=true then (laws_FnMatrices.j0 k l1 bt358.2 bt365.2 bt375.1 bt375.2 true bt358.1 bt365.1) else (if bt375.1=bt377.1 then ((impl_GoodMatrix.f bt358.1).bind fun t380=>(laws_FnMatrices.j0 k l1 bt358.2 bt365.2 bt375.1 bt375.2 (t380 != bt377.2) bt358.1 bt365.1)) else (laws_FnMatrices.j0 k l1 bt358.2 bt365.2 bt375.1 bt375.2 true bt358.1 bt365.1))) else (laws_FnMatrices.j0 k l1 bt358.2 bt365.2 bt375.1 bt375.2 true bt358.1 bt365.1)))))))))
theorem laws_FnMatrices.mono_l:∀ k,(∀ y0 y1 y2 y3 y4 y5 y6 y7,LeO (laws_FnMatrices.j0 k y0 y1 y2 y3 y4 y5 y6 y7) (laws_FnMatrices.j0 (k+1) y0 y1 y2 y3 y4 y5 y6 y7))∧(∀ y0 y1 y2 y3 y4,LeO (laws_FnMatrices.j2 k y0 y1 y2 y3 y4) (laws_FnMatrices.j2 (k+1) y0 y1 y2 y3 y4))∧(∀ y0,LeO (laws_FnMatrices.j6 k y0) (laws_FnMatrices.j6 (k+1) y0))∧(∀ y0 y1 y2 y3 y4,LeO (laws_FnMatrices.j7 k y0 y1 y2 y3 y4) (laws_FnMatrices.j7 (k+1) y0 y1 y2 y3 y4))∧(∀ y0,LeO (laws_FnMatrices.j8 k y0) (laws_FnMatrices.j8 (k+1) y0))∧(∀ y0 y1 y2 y3 y4 y5,LeO (laws_FnMatrices.j3 k y0 y1 y2 y3 y4 y5) (laws_FnMatrices.j3 (k+1) y0 y1 y2 y3 y4 y5))∧(∀ y0,LeO (laws_FnMatrices.j5 k y0) (laws_FnMatrices.j5 (k+1) y0))∧(∀ y0 y1 y2 y3 y4 y5,LeO (laws_FnMatrices.l0 k y0 y1 y2 y3 y4 y5) (laws_FnMatrices.l0 (k+1) y0 y1 y2 y3 y4 y5))∧(∀ y0 y1 y2 y3 y4 y5,LeO (laws_FnMatrices.j1 k y0 y1 y2 y3 y4 y5) (laws_FnMatrices.j1 (k+1) y0 y1 y2 y3 y4 y5))
 | 0=>⟨fun _ _ _ _ _ _ _ _ r h=>by simp [laws_FnMatrices.j0] at h,fun _ _ _ _ _ r h=>by simp [laws_FnMatrices.j2] at h,fun _ r h=>by simp [laws_FnMatrices.j6] at h,fun _ _ _ _ _ r h=>by simp [laws_FnMatrices.j7] at h,fun _ r h=>by simp [laws_FnMatrices.j8] at h,fun _ _ _ _ _ _ r h=>by simp [laws_FnMatrices.j3] at h,fun _ r h=>by simp [laws_FnMatrices.j5] at h,fun _ _ _ _ _ _ r h=>by simp [laws_FnMatrices.l0] at h,fun _ _ _ _ _ _ r h=>by simp [laws_FnMatrices.j1] at h⟩
 | k+1=>by
  obtain ⟨ih0,ih1,ih2,ih3,ih4,ih5,ih6,ih7,ih8⟩:=laws_FnMatrices.mono_l k
  refine ⟨?_,?_,?_,?_,?_,?_,?_,?_,?_⟩
  ·intro y0 y1 y2 y3 y4 y5 y6 y7
   unfold laws_FnMatrices.j0
   exact mm
  ·intro y0 y1 y2 y3 y4
   unfold laws_FnMatrices.j2
   exact mm
  ·intro y0
   unfold laws_FnMatrices.j6
   exact mm
  ·intro y0 y1 y2 y3 y4
   unfold laws_FnMatrices.j7
   exact mm
  ·intro y0
   unfold laws_FnMatrices.j8
   exact mm
  ·intro y0 y1 y2 y3 y4 y5
   unfold laws_FnMatrices.j3
   exact mm
  ·intro y0
   unfold laws_FnMatrices.j5
   exact mm
  ·intro y0 y1 y2 y3 y4 y5
   unfold laws_FnMatrices.l0
   exact mm
  intro y0 y1 y2 y3 y4 y5
  unfold laws_FnMatrices.j1
  exact mm
theorem laws_FnMatrices.mono:∀ a0 a1 k,LeO (laws_FnMatrices.f k a0 a1) (laws_FnMatrices.f (k+1) a0 a1):=by
 intro a0 a1 k
 obtain ⟨ih0,ih1,ih2,ih3,ih4,ih5,ih6,ih7,ih8⟩:=laws_FnMatrices.mono_l k
 unfold laws_FnMatrices.f
 exact mm
theorem laws_FnMatrices.calls (k:Nat) (A0:Option Addr) (c0:Nat) (l0:List Int) (A1:Option Addr) (c1:Nat) (l1:List Int) (r:Bool) (w:World) (hr0:Kd.C (Kd.int .u8) w A0 l0.length l0) (hc0:l0.length≤c0) (hr1:Kd.C (Kd.int .u8) w A1 l1.length l1) (hc1:l1.length≤c1) (h:laws_FnMatrices.f k l0 l1=some r) :
  Calls Try.prog 14 #[.slice A0 l0.length c0, .slice A1 l1.length c1] w fun e w'=>e = .returned (.bool r)∧Below w.heap.size w w':=by
 have hu43:=Try.underlying43
 have HR0:=am hr0
 have HC0:=am hc0
 clear hr0 hc0
 have HR1:=am hr1
 have HC1:=am hc1
 clear hr1 hc1
 have HB:=am (Below.refl w.heap.size w)
 have H:=h
 unfold laws_FnMatrices.f at H
 clear h
 by_cases c3:(wrap64 ((l0.length:Int)+(l1.length:Int))) > 1048576
 ·rw [if_pos c3] at H
  have c3b0:decide (1048576 < (wrap64 ((l0.length:Int)+(l1.length:Int))))=true:=decide_eq_true c3
  clear c3
  obtain rfl:=Option.some.inj H
  go_enter Try.func14,Try.ntmps14
  go_wp2
  repeat (go_quiet (fail);try go_wp2)
  go_ret
  exact ⟨D0,yW HB⟩
 rw [if_neg c3] at H
 have c3b0:decide (1048576 < (wrap64 ((l0.length:Int)+(l1.length:Int))))=false:=decide_eq_false c3
 clear c3
 obtain ⟨⟨t358,t361⟩,A4,H⟩:=yo H
 try dsimp only at H
 obtain ⟨⟨t365,t368⟩,A5,H⟩:=yo H
 try dsimp only at H
 obtain ⟨⟨t370,t373⟩,A6,H⟩:=yo H
 try dsimp only at H
 obtain ⟨⟨t375,t376⟩,A7,H⟩:=yo H
 try dsimp only at H
 obtain ⟨⟨t377,t378⟩,A8,H⟩:=yo H
 try dsimp only at H
 have HC9:=am H
 clear H
 go_enter Try.func14,Try.ntmps14
 go_upto_region 8 with (first|(go_at_call 75;(with_reducible refine (spec_DrawSolve.calls k _ _ l0 t358 t361 _ (yc HR0.out) HC0.out A4.out).mono ?_);rintro e w10 ⟨v359,v362,rfl,ho0,ho1,hb⟩;have HO360:=am (Kd.N_lower (Kd.N_mono (ok':=fun k_=>some k_ ≠ (v362:Value).ownBlock) (Kd.S_N (Kd.S_bound ho0)) (fun k_ hk_=>hk_.1)) (pz (yW HB)));have HO363:=am (Kd.R_lower ho1 (pz (yW HB)));replace HB:=yH HB hb;clear hb ho0 ho1)|((with_reducible refine gD 5 ?_);(try (refine gate_guard D35 ?_;dsimp only));refine gB (cs:=#[.slice none 0 0]) 43 ?_;intro gb364 hg w11 hbox hb;replace HO360:=oN HO360 hg hb;replace HO363:=bR HO363 hb;have BK364:=am (hbox);have GW364:=ye HB hg;replace HB:=yH HB hb;have GE364:=GW364;clear hb hbox hg;obtain ⟨Ao12,co12,eo12⟩:=Kd.N_slice HO360.out;subst eo12;obtain ⟨hcz13_0,hfz13_0⟩:=yk1 BK364)|(go_at_call 34;(with_reducible refine (impl_InverseOf.calls _ _ t358 t365 t368 _ (by refine (Kd.N_reads' (e:=57) (base:=w.heap.size) (ok:=fun k_=>(some k_ ≠ (v362:Value).ownBlock∧k_ ≠ gb364)) (n:=t358.length) (c:=co12) ?_).2.2;exact D62) (by exact (Kd.N_reads' HO360.out).2.1) A5.out).mono ?_);rintro e w14 ⟨v366,rfl,ho0,hb⟩;have HO367:=am (Kd.N_lower (Kd.N_mono (ok':=fun k_=>some k_ ≠ (.slice Ao12 t358.length co12:Value).ownBlock∧some k_ ≠ (v362:Value).ownBlock∧k_ ≠ gb364) (Kd.S_N (Kd.S_bound ho0)) (fun k_ hk_=>⟨(Kd.fresh' (Kd.N_lt D62) k_ hk_.2.1),(Kd.fresh' (Kd.R_lt D133) k_ hk_.2.1),(Kd.freshB (g:=gb364) (o:=.cells #[.slice Ao12 t358.length co12] 43 (0,0)) (by refine sB ?_;refine blk_put (cs:=#[.slice none 0 0]) ?_ 0 _ rfl;exact yB BK364) k_ hk_.2.1)⟩)) (pz (yW HB)));replace HO360:=am (Kd.N_elder' D62 D5 hb);replace HO363:=am (Kd.R_below D133 hb);replace BK364:=am (qb (g:=gb364) (o:=.cells #[.slice Ao12 t358.length co12] 43 (0,0)) (by refine sB ?_;refine blk_put (cs:=#[.slice none 0 0]) ?_ 0 _ rfl;exact yB BK364) hb);replace HB:=yH HB hb;clear hb ho0)|((with_reducible refine gD 7 ?_);(try (refine gate_guard D35 ?_;dsimp only));refine gB (cs:=#[.slice none 0 0]) 43 ?_;intro gb369 hg w15 hbox hb;replace HO360:=oN HO360 hg hb;replace HO363:=bR HO363 hb;replace HO367:=oN HO367 hg hb;have BK369:=am (hbox);have GW369:=ye HB hg;replace HB:=yH HB hb;have NB364_369:=yl BK364 hg;have NB369_364:=yg BK364 hg;replace BK364:=yb BK364 hb;have GE369:=GW369;clear hb hbox hg;obtain ⟨Ao16,co16,eo16⟩:=Kd.N_slice HO367.out;subst eo16;have hnb17:=NB369_364.out;have hnc17:=NB364_369.out;obtain ⟨hcz18_0,hfz18_0⟩:=yk1 BK369;obtain ⟨hcz19_0,hfz19_0⟩:=yk1 BK364)|(go_at_call 33;(with_reducible refine (spec_InverseOf.calls k _ _ t358 t370 t373 _ (by refine (Kd.N_reads' (e:=57) (base:=w.heap.size) (ok:=fun k_=>(((some k_ ≠ (v362:Value).ownBlock∧k_ ≠ gb364)∧some k_ ≠ (.slice Ao16 t365.length co16:Value).ownBlock)∧k_ ≠ gb369)) (n:=t358.length) (c:=co12) ?_).2.2;exact D61) (by exact (Kd.N_reads' HO360.out).2.1) A6.out).mono ?_);rintro e w20 ⟨v371,rfl,ho0,hb⟩;have HO372:=am (Kd.N_lower (Kd.N_mono (ok':=fun k_=>some k_ ≠ (.slice Ao12 t358.length co12:Value).ownBlock∧some k_ ≠ (v362:Value).ownBlock∧some k_ ≠ (.slice Ao16 t365.length co16:Value).ownBlock∧k_ ≠ gb364∧k_ ≠ gb369) ho0 (fun k_ hk_=>⟨(Kd.fresh' (Kd.N_lt D61) k_ hk_),(Kd.fresh' (Kd.R_lt D132) k_ hk_),(Kd.fresh' (Kd.N_lt D129) k_ hk_),(Kd.freshB (g:=gb364) (o:=.cells #[.slice Ao12 t358.length co12] 43 (0,0)) (yF BK364) k_ hk_),(Kd.freshB (g:=gb369) (o:=.cells #[.slice Ao16 t365.length co16] 43 (0,0)) (by refine sB ?_;refine blk_put (cs:=#[.slice none 0 0]) ?_ 0 _ rfl;exact yB BK369) k_ hk_)⟩)) (pz (yW HB)));replace HO360:=am (Kd.N_elder' D61 D5 hb);replace HO363:=am (Kd.R_below D132 hb);replace HO367:=am (Kd.N_elder' D129 D5 hb);replace BK364:=am (qb (g:=gb364) (o:=.cells #[.slice Ao12 t358.length co12] 43 (0,0)) (yF BK364) hb);replace BK369:=am (qb (g:=gb369) (o:=.cells #[.slice Ao16 t365.length co16] 43 (0,0)) (by refine sB ?_;refine blk_put (cs:=#[.slice none 0 0]) ?_ 0 _ rfl;exact yB BK369) hb);replace HB:=yH HB hb;clear hb ho0)|((with_reducible refine gD 9 ?_);(try (refine gate_guard D35 ?_;dsimp only));refine gB (cs:=#[.slice none 0 0]) 43 ?_;intro gb374 hg w21 hbox hb;replace HO360:=oN HO360 hg hb;replace HO363:=bR HO363 hb;replace HO367:=oN HO367 hg hb;replace HO372:=oN HO372 hg hb;have BK374:=am (hbox);have GW374:=ye HB hg;replace HB:=yH HB hb;have NB364_374:=yl BK364 hg;have NB374_364:=yg BK364 hg;replace BK364:=yb BK364 hb;have NB369_374:=yl BK369 hg;have NB374_369:=yg BK369 hg;replace BK369:=yb BK369 hb;have GE374:=GW374;clear hb hbox hg;obtain ⟨Ao22,co22,eo22⟩:=Kd.N_slice HO372.out;subst eo22;have hnb23:=NB374_364.out;have hnc23:=NB364_374.out;have hnb24:=NB374_369.out;have hnc24:=NB369_374.out;obtain ⟨hcz25_0,hfz25_0⟩:=yk1 BK374;obtain ⟨hcz26_0,hfz26_0⟩:=yk1 BK364)|(go_at_call 28;(with_reducible refine (impl_RankOf.calls _ _ t358 t375 t376 _ (by refine (Kd.N_reads' (e:=57) (base:=w.heap.size) (ok:=fun k_=>(((((some k_ ≠ (v362:Value).ownBlock∧k_ ≠ gb364)∧some k_ ≠ (.slice Ao16 t365.length co16:Value).ownBlock)∧k_ ≠ gb369)∧some k_ ≠ (.slice Ao22 t370.length co22:Value).ownBlock)∧k_ ≠ gb374)) (n:=t358.length) (c:=co12) ?_).2.2;exact D128) (by exact (Kd.N_reads' HO360.out).2.1) A7.out).mono ?_);rintro e w27 ⟨rfl,hb⟩;replace HO360:=am (Kd.N_below D128 hb);replace HO363:=am (Kd.R_below (by refine sR ?_;exact (Kd.R_mono (Kd.R_far (p:=⟨gb374,0,none⟩) (Kd.R_types HO363.out BK374.out D24) (fun _ hk=>hk.2) (.slice Ao22 t370.length co22)) (fun _ h_=>h_.1))) hb);replace HO367:=am (Kd.N_below (by refine sN ?_;exact (Kd.N_mono (Kd.N_far (p:=⟨gb374,0,none⟩) (Kd.N_mono HO367.out (fun k_ hk=>(⟨hk,hk.2⟩:_∧k_ ≠ gb374))) (fun _ hk=>hk.2) (.slice Ao22 t370.length co22)) (fun _ h_=>h_.1))) hb);replace HO372:=am (Kd.N_below (by refine sN ?_;exact (Kd.N_mono (Kd.N_far (p:=⟨gb374,0,none⟩) (Kd.N_mono HO372.out (fun k_ hk=>(⟨hk,hk.2⟩:_∧k_ ≠ gb374))) (fun _ hk=>hk.2) (.slice Ao22 t370.length co22)) (fun _ h_=>h_.1))) hb);replace BK364:=am (qb (g:=gb364) (o:=.cells #[.slice Ao12 t358.length co12] 43 (0,0)) (yF BK364) hb);replace BK369:=am (qb (g:=gb369) (o:=.cells #[.slice Ao16 t365.length co16] 43 (0,0)) (yF BK369) hb);replace BK374:=am (qb (g:=gb374) (o:=.cells #[.slice Ao22 t370.length co22] 43 (0,0)) (by refine sB ?_;refine blk_put (cs:=#[.slice none 0 0]) ?_ 0 _ rfl;exact yB BK374) hb);replace HB:=yH HB hb;clear hb;obtain ⟨hcz28_0,hfz28_0⟩:=yk1 BK364)|(go_at_call 26;(with_reducible refine (spec_RankOf.calls k _ _ t358 t377 t378 _ (yc (Kd.N_reads' HO360.out).2.2) (Kd.N_reads' HO360.out).2.1 A8.out).mono ?_);rintro e w29 ⟨rfl,hb⟩;replace HO360:=bN HO360 hb;replace HO363:=bR HO363 hb;replace HO367:=bN HO367 hb;replace HO372:=bN HO372 hb;replace BK364:=yb BK364 hb;replace BK369:=yb BK369 hb;replace BK374:=yb BK374 hb;replace HB:=yH HB hb;clear hb))
 (try simp only [Act.put,q1,q2,q3])
 go_cut [100] (fun v100 wc=>∃ (kq:Nat) (x100_8:Bool),v100 = .bool x100_8∧Aside0 (laws_FnMatrices.j0 kq l1 t361 t368 t375 t376 x100_8 t358 t365=some r)∧Aside0 (kq≤k)∧Aside0 (Kd.R (Kd.int .u8) 5 wc w.heap.size (fun _=>True) v362 t361)∧Aside0 (Kd.N (Kd.slice 5 (Kd.int .u8)) 57 wc w.heap.size (fun k_=>some k_ ≠ (v362:Value).ownBlock∧some k_ ≠ ((.slice Ao16 t365.length co16):Value).ownBlock∧some k_ ≠ ((.slice Ao22 t370.length co22):Value).ownBlock∧k_ ≠ gb364∧k_ ≠ gb369∧k_ ≠ gb374) (.slice Ao12 t358.length co12) t358)∧Aside0 (Kd.N (Kd.slice 5 (Kd.int .u8)) 57 wc w.heap.size (fun k_=>some k_ ≠ (v362:Value).ownBlock∧some k_ ≠ ((.slice Ao12 t358.length co12):Value).ownBlock∧some k_ ≠ ((.slice Ao22 t370.length co22):Value).ownBlock∧k_ ≠ gb364∧k_ ≠ gb369∧k_ ≠ gb374) (.slice Ao16 t365.length co16) t365)∧Aside0 (Kd.N (Kd.slice 5 (Kd.int .u8)) 57 wc w.heap.size (fun k_=>some k_ ≠ (v362:Value).ownBlock∧some k_ ≠ ((.slice Ao12 t358.length co12):Value).ownBlock∧some k_ ≠ ((.slice Ao16 t365.length co16):Value).ownBlock∧k_ ≠ gb364∧k_ ≠ gb369∧k_ ≠ gb374) (.slice Ao22 t370.length co22) t370)∧Aside0 (wc.heap[gb364]? = some (.cells #[(.slice Ao12 t358.length co12)] 43 (0,0)))∧Aside0 (wc.heap[gb369]? = some (.cells #[(.slice Ao16 t365.length co16)] 43 (0,0)))∧Aside0 (wc.heap[gb374]? = some (.cells #[(.slice Ao22 t370.length co22)] 43 (0,0)))∧Aside0 (Below w.heap.size w wc))
 case first=>as_aux_lemma=>
  have H:=HC9.out
  clear HC9
  by_cases c30:(t368 != t373)=true
  ·rw [if_pos c30] at H
   have c30b0:(t368 != t373)=true:=c30
   (try (have c30b1:decide (t368=t373)=false:=by simpa using c30))
   (try (have c30b2:(t368 == t373)=false:=by simpa using c30))
   (try (have c30b3:¬ (t368=t373):=by simpa using c30))
   clear c30
   (first|rw [c30b0]|(simp only [i64_w,i32_w];rw [c30b0])|skip)
   have H':=am H
   clear H
   go_wp2
   repeat (go_quiet (fail);try go_wp2)
   go_meet
   case rel=>exact ⟨_,(true),D2,H',⟨D82⟩,⟨yR HO363⟩,⟨D49⟩,⟨D48⟩,⟨D46⟩,⟨yB BK364⟩,⟨yB BK369⟩,⟨yB BK374⟩,⟨yW HB⟩⟩
  rw [if_neg c30] at H
  have c30b0:(t368 != t373)=false:=by simpa using c30
  (try (have c30b1:decide (t368=t373)=true:=by simpa using c30))
  (try (have c30b2:(t368 == t373)=true:=by simpa using c30))
  clear c30
  (first|rw [c30b0]|(simp only [i64_w,i32_w];rw [c30b0])|skip)
  obtain ⟨t379,A31,H⟩:=yo H
  by_cases c32:t379=true
  ·subst c32
   replace H:=yt H
   by_cases c33:(t376 != t378)=true
   ·rw [if_pos c33] at H
    have c33b0:(t376 != t378)=true:=c33
    (try (have c33b1:decide (t376=t378)=false:=by simpa using c33))
    (try (have c33b2:(t376 == t378)=false:=by simpa using c33))
    (try (have c33b3:¬ (t376=t378):=by simpa using c33))
    clear c33
    have H':=am H
    clear H
    have hnb34:=NB369_364.out
    have hnc34:=NB364_369.out
    have hnb35:=NB369_374.out
    have hnc35:=NB374_369.out
    obtain ⟨hcz36_0,hfz36_0⟩:=yk1 BK369
    have hnb37:=NB374_364.out
    have hnc37:=NB364_374.out
    obtain ⟨hcz38_0,hfz38_0⟩:=yk1 BK374
    go_wp2_with (first|(go_at_call 76;(with_reducible refine (laws_sameMatrices.calls k _ _ t365 _ _ t370 true _ (yc (Kd.N_reads' HO367.out).2.2) (Kd.N_reads' HO367.out).2.1 (yc (Kd.N_reads' HO372.out).2.2) (Kd.N_reads' HO372.out).2.1 A31.out).mono ?_);rintro e w39 ⟨rfl,hb⟩;replace HO360:=bN HO360 hb;replace HO363:=bR HO363 hb;replace HO367:=bN HO367 hb;replace HO372:=bN HO372 hb;replace BK364:=yb BK364 hb;replace BK369:=yb BK369 hb;replace BK374:=yb BK374 hb;replace HB:=yH HB hb;clear hb))
    go_meet
    case rel=>exact ⟨_,(true),D2,H',⟨D82⟩,⟨yR HO363⟩,⟨D49⟩,⟨D48⟩,⟨D46⟩,⟨yB BK364⟩,⟨yB BK369⟩,⟨yB BK374⟩,⟨yW HB⟩⟩
   rw [if_neg c33] at H
   have c33b0:(t376 != t378)=false:=by simpa using c33
   (try (have c33b1:decide (t376=t378)=true:=by simpa using c33))
   (try (have c33b2:(t376 == t378)=true:=by simpa using c33))
   clear c33
   by_cases c40:t375=t377
   ·rw [if_pos c40] at H
    have c40b0:(t375 == t377)=true:=beq_iff_eq.mpr c40
    have c40b1:(t375 != t377)=false:=bne_eq_false_iff_eq.mpr c40
    clear c40
    obtain ⟨t380,A41,H⟩:=yo H
    have H':=am H
    clear H
    have hnb42:=NB369_364.out
    have hnc42:=NB364_369.out
    have hnb43:=NB369_374.out
    have hnc43:=NB374_369.out
    obtain ⟨hcz44_0,hfz44_0⟩:=yk1 BK369
    have hnb45:=NB374_364.out
    have hnc45:=NB364_374.out
    obtain ⟨hcz46_0,hfz46_0⟩:=yk1 BK374
    go_wp2_with (first|(go_at_call 76;(with_reducible refine (laws_sameMatrices.calls k _ _ t365 _ _ t370 true _ (yc (Kd.N_reads' HO367.out).2.2) (Kd.N_reads' HO367.out).2.1 (yc (Kd.N_reads' HO372.out).2.2) (Kd.N_reads' HO372.out).2.1 A31.out).mono ?_);rintro e w47 ⟨rfl,hb⟩;replace HO360:=bN HO360 hb;replace HO363:=bR HO363 hb;replace HO367:=bN HO367 hb;replace HO372:=bN HO372 hb;replace BK364:=yb BK364 hb;replace BK369:=yb BK369 hb;replace BK374:=yb BK374 hb;replace HB:=yH HB hb;clear hb;obtain ⟨hcz48_0,hfz48_0⟩:=yk1 BK364)|(go_at_call 77;(with_reducible refine (impl_GoodMatrix.calls _ _ t358 t380 _ (yc (Kd.N_reads' HO360.out).2.2) (Kd.N_reads' HO360.out).2.1 A41.out).mono ?_);rintro e w49 ⟨rfl,hb⟩;replace HO360:=bN HO360 hb;replace HO363:=bR HO363 hb;replace HO367:=bN HO367 hb;replace HO372:=bN HO372 hb;replace BK364:=yb BK364 hb;replace BK369:=yb BK369 hb;replace BK374:=yb BK374 hb;replace HB:=yH HB hb;clear hb))
    go_meet
    case rel=>exact ⟨_,((t380 != t378)),D2,H',⟨D82⟩,⟨yR HO363⟩,⟨D49⟩,⟨D48⟩,⟨D46⟩,⟨yB BK364⟩,⟨yB BK369⟩,⟨yB BK374⟩,⟨yW HB⟩⟩
   rw [if_neg c40] at H
   have c40b0:(t375 == t377)=false:=beq_eq_false_iff_ne.mpr c40
   have c40b1:(t375 != t377)=true:=bne_iff_ne.mpr c40
   have H':=am H
   clear H
   have hnb50:=NB369_364.out
   have hnc50:=NB364_369.out
   have hnb51:=NB369_374.out
   have hnc51:=NB374_369.out
   obtain ⟨hcz52_0,hfz52_0⟩:=yk1 BK369
   have hnb53:=NB374_364.out
   have hnc53:=NB364_374.out
   obtain ⟨hcz54_0,hfz54_0⟩:=yk1 BK374
   go_wp2_with (first|(go_at_call 76;(with_reducible refine (laws_sameMatrices.calls k _ _ t365 _ _ t370 true _ (yc (Kd.N_reads' HO367.out).2.2) (Kd.N_reads' HO367.out).2.1 (yc (Kd.N_reads' HO372.out).2.2) (Kd.N_reads' HO372.out).2.1 A31.out).mono ?_);rintro e w55 ⟨rfl,hb⟩;replace HO360:=bN HO360 hb;replace HO363:=bR HO363 hb;replace HO367:=bN HO367 hb;replace HO372:=bN HO372 hb;replace BK364:=yb BK364 hb;replace BK369:=yb BK369 hb;replace BK374:=yb BK374 hb;replace HB:=yH HB hb;clear hb))
   go_meet
   case rel=>exact ⟨_,(true),D2,H',⟨D82⟩,⟨yR HO363⟩,⟨D49⟩,⟨D48⟩,⟨D46⟩,⟨yB BK364⟩,⟨yB BK369⟩,⟨yB BK374⟩,⟨yW HB⟩⟩
  replace c32:=Bool.eq_false_iff.mpr c32
  subst c32
  replace H:=yn H
  have H':=am H
  clear H
  have hnb56:=NB369_364.out
  have hnc56:=NB364_369.out
  have hnb57:=NB369_374.out
  have hnc57:=NB374_369.out
  obtain ⟨hcz58_0,hfz58_0⟩:=yk1 BK369
  have hnb59:=NB374_364.out
  have hnc59:=NB364_374.out
  obtain ⟨hcz60_0,hfz60_0⟩:=yk1 BK374
  go_wp2_with (first|(go_at_call 76;(with_reducible refine (laws_sameMatrices.calls k _ _ t365 _ _ t370 false _ (yc (Kd.N_reads' HO367.out).2.2) (Kd.N_reads' HO367.out).2.1 (yc (Kd.N_reads' HO372.out).2.2) (Kd.N_reads' HO372.out).2.1 A31.out).mono ?_);rintro e w61 ⟨rfl,hb⟩;replace HO360:=bN HO360 hb;replace HO363:=bR HO363 hb;replace HO367:=bN HO367 hb;replace HO372:=bN HO372 hb;replace BK364:=yb BK364 hb;replace BK369:=yb BK369 hb;replace BK374:=yb BK374 hb;replace HB:=yH HB hb;clear hb))
  go_meet
  case rel=>exact ⟨_,(true),D2,H',⟨D82⟩,⟨yR HO363⟩,⟨D49⟩,⟨D48⟩,⟨D46⟩,⟨yB BK364⟩,⟨yB BK369⟩,⟨yB BK374⟩,⟨yW HB⟩⟩
 case rest=>as_aux_lemma=>
  clear HC9
  try clear c1
  try clear c2
  try clear p2
  try clear c3
  try clear c3b0
  try clear c4
  try clear c5
  try clear p6
  try clear c14
  try clear c17
  try clear c23
  try clear c24
  try clear c30
  try clear c30b0
  try clear c30b1
  try clear c30b2
  try clear c32
  try clear c33
  try clear c33b0
  try clear c33b1
  try clear c33b2
  try clear c34
  try clear c35
  try clear c37
  try clear c40
  try clear c40b0
  try clear c40b1
  try clear c42
  try clear c43
  try clear c45
  try clear c50
  try clear c51
  try clear c53
  try clear c56
  try clear c57
  try clear c59
  try clear hcz13_0
  try clear hcz18_0
  try clear hcz19_0
  try clear hcz25_0
  try clear hcz26_0
  try clear hcz28_0
  try clear hcz36_0
  try clear hcz38_0
  try clear hcz44_0
  try clear hcz46_0
  try clear hcz48_0
  try clear hcz52_0
  try clear hcz54_0
  try clear hcz58_0
  try clear hcz60_0
  try clear hfz13_0
  try clear hfz18_0
  try clear hfz19_0
  try clear hfz25_0
  try clear hfz26_0
  try clear hfz28_0
  try clear hfz36_0
  try clear hfz38_0
  try clear hfz44_0
  try clear hfz46_0
  try clear hfz48_0
  try clear hfz52_0
  try clear hfz54_0
  try clear hfz58_0
  try clear hfz60_0
  obtain ⟨kq,x100_8,rfl,HA,HJ8,HO_6,HO_365000,HO_370000,HO_375000,BK364,BK369,BK374,HB⟩:=hcut
  cases kq with
  | zero=>exact absurd HA.out (by simp [laws_FnMatrices.j0])
  | succ kj8 =>
   have H:=HA.out
   clear HA
   simp only [laws_FnMatrices.j0] at H
   by_cases c62:x100_8=true
   ·subst c62
    replace H:=yt H
    obtain rfl:=Option.some.inj H
    go_wp2
    repeat (go_quiet (fail);try go_wp2)
    go_ret
    exact ⟨D0,yW HB⟩
   replace c62:=Bool.eq_false_iff.mpr c62
   subst c62
   replace H:=yn H
   have HC63:=am H
   clear H
   go_upto_if 101 with (fail)
   repeat (go_quiet (fail);go_upto_if 101 with (fail))
   go_cut [] (fun wc=>∃ (kq:Nat),Aside0 (laws_FnMatrices.j2 kq l1 t361 t368 t358 t365=some r)∧Aside0 (kq≤kj8)∧Aside0 (Kd.R (Kd.int .u8) 5 wc w.heap.size (fun _=>True) v362 t361)∧Aside0 (Kd.N (Kd.slice 5 (Kd.int .u8)) 57 wc w.heap.size (fun k_=>some k_ ≠ (v362:Value).ownBlock∧some k_ ≠ ((.slice Ao16 t365.length co16):Value).ownBlock∧some k_ ≠ ((.slice Ao22 t370.length co22):Value).ownBlock∧k_ ≠ gb364∧k_ ≠ gb369∧k_ ≠ gb374) (.slice Ao12 t358.length co12) t358)∧Aside0 (Kd.N (Kd.slice 5 (Kd.int .u8)) 57 wc w.heap.size (fun k_=>some k_ ≠ (v362:Value).ownBlock∧some k_ ≠ ((.slice Ao12 t358.length co12):Value).ownBlock∧some k_ ≠ ((.slice Ao22 t370.length co22):Value).ownBlock∧k_ ≠ gb364∧k_ ≠ gb369∧k_ ≠ gb374) (.slice Ao16 t365.length co16) t365)∧Aside0 (Kd.N (Kd.slice 5 (Kd.int .u8)) 57 wc w.heap.size (fun k_=>some k_ ≠ (v362:Value).ownBlock∧some k_ ≠ ((.slice Ao12 t358.length co12):Value).ownBlock∧some k_ ≠ ((.slice Ao16 t365.length co16):Value).ownBlock∧k_ ≠ gb364∧k_ ≠ gb369∧k_ ≠ gb374) (.slice Ao22 t370.length co22) t370)∧Aside0 (wc.heap[gb364]? = some (.cells #[(.slice Ao12 t358.length co12)] 43 (0,0)))∧Aside0 (wc.heap[gb369]? = some (.cells #[(.slice Ao16 t365.length co16)] 43 (0,0)))∧Aside0 (wc.heap[gb374]? = some (.cells #[(.slice Ao22 t370.length co22)] 43 (0,0)))∧Aside0 (Below w.heap.size w wc))
   case first=>as_aux_lemma=>
    have H:=HC63.out
    clear HC63
    by_cases c64:t376=true
    ·subst c64
     replace H:=yt H
     obtain ⟨⟨t381,t384⟩,A65,H⟩:=yo H
     try dsimp only at H
     obtain ⟨⟨t386,t387⟩,A66,H⟩:=yo H
     try dsimp only at H
     have HC67:=am H
     clear H
     have hnb68:=NB364_369.out
     have hnc68:=NB369_364.out
     have hnb69:=NB364_374.out
     have hnc69:=NB374_364.out
     obtain ⟨hcz70_0,hfz70_0⟩:=yk1 BK364
     go_upto_region 13 with (first|(go_at_call 78;(with_reducible refine (impl_Transposed.calls kj8 _ _ t358 t381 t384 _ (yc (Kd.N_reads' HO_365000.out).2.2) (Kd.N_reads' HO_365000.out).2.1 A65.out).mono ?_);rintro e w71 ⟨v382,rfl,ho0,hb⟩;have HO383:=am (Kd.N_lower (Kd.N_mono (ok':=fun k_=>some k_ ≠ (v362:Value).ownBlock∧some k_ ≠ (.slice Ao12 t358.length co12:Value).ownBlock∧some k_ ≠ (.slice Ao16 t365.length co16:Value).ownBlock∧some k_ ≠ (.slice Ao22 t370.length co22:Value).ownBlock∧k_ ≠ gb364∧k_ ≠ gb369∧k_ ≠ gb374) (Kd.S_N (Kd.S_bound ho0)) (fun k_ hk_=>⟨(Kd.fresh' (Kd.R_lt (yR HO_6)) k_ hk_.2.1),(Kd.fresh' (Kd.N_lt (yN HO_365000)) k_ hk_.2.1),(Kd.fresh' (Kd.N_lt (yN HO_370000)) k_ hk_.2.1),(Kd.fresh' (Kd.N_lt (yN HO_375000)) k_ hk_.2.1),(yz BK364 k_ hk_.2.1),(yz BK369 k_ hk_.2.1),(yz BK374 k_ hk_.2.1)⟩)) (pz (yW HB)));replace HO_6:=bR HO_6 hb;replace HO_365000:=eN HO_365000 D5 hb;replace HO_370000:=eN HO_370000 D5 hb;replace HO_375000:=eN HO_375000 D5 hb;replace BK364:=yb BK364 hb;replace BK369:=yb BK369 hb;replace BK374:=yb BK374 hb;replace HB:=yH HB hb;clear hb ho0)|((with_reducible refine gD 15 ?_);(try (refine gate_guard D35 ?_;dsimp only));refine gB (cs:=#[.slice none 0 0]) 43 ?_;intro gb385 hg w72 hbox hb;replace HO_6:=bR HO_6 hb;replace HO_365000:=oN HO_365000 hg hb;replace HO_370000:=oN HO_370000 hg hb;replace HO_375000:=oN HO_375000 hg hb;replace HO383:=oN HO383 hg hb;have BK385:=am (hbox);have GW385:=ye HB hg;replace HB:=yH HB hb;have NB364_385:=yl BK364 hg;have NB385_364:=yg BK364 hg;replace BK364:=yb BK364 hb;have NB369_385:=yl BK369 hg;have NB385_369:=yg BK369 hg;replace BK369:=yb BK369 hb;have NB374_385:=yl BK374 hg;have NB385_374:=yg BK374 hg;replace BK374:=yb BK374 hb;have GE385:=GW385;clear hb hbox hg;obtain ⟨Ao73,co73,eo73⟩:=Kd.N_slice HO383.out;subst eo73;have hnb74:=NB385_364.out;have hnc74:=NB364_385.out;have hnb75:=NB385_369.out;have hnc75:=NB369_385.out;have hnb76:=NB385_374.out;have hnc76:=NB374_385.out;obtain ⟨hcz77_0,hfz77_0⟩:=yk1 BK385)|(go_at_call 28;(with_reducible refine (impl_RankOf.calls _ _ t381 t386 t387 _ (by refine (Kd.N_reads' (e:=57) (base:=w.heap.size) (ok:=fun k_=>((some k_ ≠ (v362:Value).ownBlock∧(some k_ ≠ (.slice Ao12 t358.length co12:Value).ownBlock∧(some k_ ≠ (.slice Ao16 t365.length co16:Value).ownBlock∧(some k_ ≠ (.slice Ao22 t370.length co22:Value).ownBlock∧(k_ ≠ gb364∧(k_ ≠ gb369∧k_ ≠ gb374))))))∧k_ ≠ gb385)) (n:=t381.length) (c:=co73) ?_).2.2;exact D127) (by exact (Kd.N_reads' HO383.out).2.1) A66.out).mono ?_);rintro e w78 ⟨rfl,hb⟩;replace HO_6:=am (Kd.R_below (by refine sR ?_;exact (Kd.R_mono (Kd.R_far (p:=⟨gb385,0,none⟩) (Kd.R_types HO_6.out BK385.out D24) (fun _ hk=>hk.2) (.slice Ao73 t381.length co73)) (fun _ h_=>h_.1))) hb);replace HO_365000:=am (Kd.N_below (by refine sN ?_;exact (Kd.N_mono (Kd.N_far (p:=⟨gb385,0,none⟩) (Kd.N_mono HO_365000.out (fun k_ hk=>(⟨hk,hk.2⟩:_∧k_ ≠ gb385))) (fun _ hk=>hk.2) (.slice Ao73 t381.length co73)) (fun _ h_=>h_.1))) hb);replace HO_370000:=am (Kd.N_below (by refine sN ?_;exact (Kd.N_mono (Kd.N_far (p:=⟨gb385,0,none⟩) (Kd.N_mono HO_370000.out (fun k_ hk=>(⟨hk,hk.2⟩:_∧k_ ≠ gb385))) (fun _ hk=>hk.2) (.slice Ao73 t381.length co73)) (fun _ h_=>h_.1))) hb);replace HO_375000:=am (Kd.N_below (by refine sN ?_;exact (Kd.N_mono (Kd.N_far (p:=⟨gb385,0,none⟩) (Kd.N_mono HO_375000.out (fun k_ hk=>(⟨hk,hk.2⟩:_∧k_ ≠ gb385))) (fun _ hk=>hk.2) (.slice Ao73 t381.length co73)) (fun _ h_=>h_.1))) hb);replace HO383:=am (Kd.N_below D127 hb);replace BK364:=am (qb (g:=gb364) (o:=.cells #[.slice Ao12 t358.length co12] 43 (0,0)) (yF BK364) hb);replace BK369:=am (qb (g:=gb369) (o:=.cells #[.slice Ao16 t365.length co16] 43 (0,0)) (yF BK369) hb);replace BK374:=am (qb (g:=gb374) (o:=.cells #[.slice Ao22 t370.length co22] 43 (0,0)) (yF BK374) hb);replace BK385:=am (qb (g:=gb385) (o:=.cells #[.slice Ao73 t381.length co73] 43 (0,0)) (by refine sB ?_;refine blk_put (cs:=#[.slice none 0 0]) ?_ 0 _ rfl;exact yB BK385) hb);replace HB:=yH HB hb;clear hb))
     (try simp only [Act.put,q1,q2,q3])
     go_cut [142] (fun v142 wc=>∃ (kq:Nat) (x142_66:Bool),v142 = .bool x142_66∧Aside0 (laws_FnMatrices.j1 kq l1 t361 t368 x142_66 t358 t365=some r)∧Aside0 (kq≤kj8)∧Aside0 (Kd.R (Kd.int .u8) 5 wc w.heap.size (fun _=>True) v362 t361)∧Aside0 (Kd.N (Kd.slice 5 (Kd.int .u8)) 57 wc w.heap.size (fun k_=>some k_ ≠ (v362:Value).ownBlock∧some k_ ≠ ((.slice Ao16 t365.length co16):Value).ownBlock∧some k_ ≠ ((.slice Ao22 t370.length co22):Value).ownBlock∧some k_ ≠ ((.slice Ao73 t381.length co73):Value).ownBlock∧k_ ≠ gb364∧k_ ≠ gb369∧k_ ≠ gb374∧k_ ≠ gb385) (.slice Ao12 t358.length co12) t358)∧Aside0 (Kd.N (Kd.slice 5 (Kd.int .u8)) 57 wc w.heap.size (fun k_=>some k_ ≠ (v362:Value).ownBlock∧some k_ ≠ ((.slice Ao12 t358.length co12):Value).ownBlock∧some k_ ≠ ((.slice Ao22 t370.length co22):Value).ownBlock∧some k_ ≠ ((.slice Ao73 t381.length co73):Value).ownBlock∧k_ ≠ gb364∧k_ ≠ gb369∧k_ ≠ gb374∧k_ ≠ gb385) (.slice Ao16 t365.length co16) t365)∧Aside0 (Kd.N (Kd.slice 5 (Kd.int .u8)) 57 wc w.heap.size (fun k_=>some k_ ≠ (v362:Value).ownBlock∧some k_ ≠ ((.slice Ao12 t358.length co12):Value).ownBlock∧some k_ ≠ ((.slice Ao16 t365.length co16):Value).ownBlock∧some k_ ≠ ((.slice Ao73 t381.length co73):Value).ownBlock∧k_ ≠ gb364∧k_ ≠ gb369∧k_ ≠ gb374∧k_ ≠ gb385) (.slice Ao22 t370.length co22) t370)∧Aside0 (Kd.N (Kd.slice 5 (Kd.int .u8)) 57 wc w.heap.size (fun k_=>some k_ ≠ (v362:Value).ownBlock∧some k_ ≠ ((.slice Ao12 t358.length co12):Value).ownBlock∧some k_ ≠ ((.slice Ao16 t365.length co16):Value).ownBlock∧some k_ ≠ ((.slice Ao22 t370.length co22):Value).ownBlock∧k_ ≠ gb364∧k_ ≠ gb369∧k_ ≠ gb374∧k_ ≠ gb385) (.slice Ao73 t381.length co73) t381)∧Aside0 (wc.heap[gb364]? = some (.cells #[(.slice Ao12 t358.length co12)] 43 (0,0)))∧Aside0 (wc.heap[gb369]? = some (.cells #[(.slice Ao16 t365.length co16)] 43 (0,0)))∧Aside0 (wc.heap[gb374]? = some (.cells #[(.slice Ao22 t370.length co22)] 43 (0,0)))∧Aside0 (wc.heap[gb385]? = some (.cells #[(.slice Ao73 t381.length co73)] 43 (0,0)))∧Aside0 (Below w.heap.size w wc))
     case first=>as_aux_lemma=>
      have H:=HC67.out
      clear HC67
      by_cases c79:t384=true
      ·subst c79
       replace H:=yt H
       by_cases c80:t387=true
       ·subst c80
        replace H:=yt H
        by_cases c81:t386=t375
        ·rw [if_pos c81] at H
         have c81b0:(t386 == t375)=true:=beq_iff_eq.mpr c81
         have c81b1:(t386 != t375)=false:=bne_eq_false_iff_eq.mpr c81
         clear c81
         (first|rw [c81b0]|(simp only [i64_w,i32_w];rw [c81b0])|skip)
         by_cases c82:0 < (t358.length:Int)
         ·rw [if_pos c82] at H
          have c82b0:=decide_eq_true c82
          have c82b1:decide (0 < t358.length)=true:=decide_eq_true D23
          clear c82
          by_cases c83:(t358.length:Int)=((rd_L1 t358 0).length:Int)
          ·rw [if_pos c83] at H
           have c83b0:((t358.length:Int) == ((rd_L1 t358 0).length:Int))=true:=beq_iff_eq.mpr c83
           have c83b1:((t358.length:Int) != ((rd_L1 t358 0).length:Int))=false:=bne_eq_false_iff_eq.mpr c83
           have c83b2:(t358.length == (rd_L1 t358 0).length)=true:=by first|simpa using c83|(simp at c83 ⊢;omega)
           clear c83
           have H':=am H
           clear H
           have hnb84:=NB364_369.out
           have hnc84:=NB369_364.out
           have hnb85:=NB364_374.out
           have hnc85:=NB374_364.out
           have hnb86:=NB364_385.out
           have hnc86:=NB385_364.out
           obtain ⟨hcz87_0,hfz87_0⟩:=yk1 BK364
           have p388:0≤(0:Int):=D23
           have q388:0 < (t358.length:Int):=od D1
           obtain ⟨ad388,A388_0,c388_0,e388,hx388_0,hl388_0,hi388_0⟩:=at_L1 (Kd.N_reads' HO_365000.out).2.2 0 p388 q388
           cases e388
           obtain ⟨ce388,hce388,hMe388,hcc388⟩:=Kd.N_get HO_365000.out [] 0 p388 (by first|exact q388|exact od D1|(have e_:=(Kd.N_reads' HO_365000.out).1;omega))
           obtain ⟨ua388_0,uc388_0,rfl,ul388_0,ge388_0⟩:=Kd.FK_slice_open hMe388
           have hv388_0:=hcc388 0 _ rfl
           rw [Nat.add_zero,show ((Kd.slice 5 (Kd.int .u8))).sz=1 from rfl,Nat.mul_one] at hv388_0
           replace hv388_0:=Option.some.inj (hv388_0.symm.trans hx388_0)
           injection hv388_0 with hva_ hvn_ hvc_
           rw [hva_] at ge388_0
           rw [hvc_] at ul388_0
           have HL388_0:=am (show Kd.V (Kd.int .u8) 5 _ w.heap.size _ _ (rd_L1 t358 0) from Kd.V_mk ul388_0 ge388_0)
           clear hva_ hvn_ hvc_ ge388_0 ul388_0
           clear hcc388 hce388
           have qi388:(0 < t358.length)=True:=eq_true D23
           (try rw [show ((0:Int)).toNat=0 from rfl] at hx388_0)
           (try rw [Addr.add_zero'] at hx388_0)
           have HR388_0:=am hi388_0
           have HC388_0:=am hl388_0
           clear hi388_0 hl388_0
           replace p388:=eq_true p388
           replace q388:=eq_true q388
           go_wp2
           repeat (go_quiet (fail);try go_wp2)
           go_meet
           case rel=>exact ⟨_,((t368 != (t375 == (t358.length:Int)))),D2,H',⟨D86⟩,⟨yR HO_6⟩,⟨D42⟩,⟨D41⟩,⟨D40⟩,⟨D43⟩,⟨yB BK364⟩,⟨yB BK369⟩,⟨yB BK374⟩,⟨yB BK385⟩,⟨yW HB⟩⟩
          rw [if_neg c83] at H
          have c83b0:((t358.length:Int) == ((rd_L1 t358 0).length:Int))=false:=beq_eq_false_iff_ne.mpr c83
          have c83b1:((t358.length:Int) != ((rd_L1 t358 0).length:Int))=true:=bne_iff_ne.mpr c83
          have c83b2:(t358.length == (rd_L1 t358 0).length)=false:=by first|simpa using c83|(simp at c83 ⊢;omega)
          have H':=am H
          clear H
          have hnb88:=NB364_369.out
          have hnc88:=NB369_364.out
          have hnb89:=NB364_374.out
          have hnc89:=NB374_364.out
          have hnb90:=NB364_385.out
          have hnc90:=NB385_364.out
          obtain ⟨hcz91_0,hfz91_0⟩:=yk1 BK364
          have p388:0≤(0:Int):=D23
          have q388:0 < (t358.length:Int):=od D1
          obtain ⟨ad388,A388_0,c388_0,e388,hx388_0,hl388_0,hi388_0⟩:=at_L1 (Kd.N_reads' HO_365000.out).2.2 0 p388 q388
          cases e388
          obtain ⟨ce388,hce388,hMe388,hcc388⟩:=Kd.N_get HO_365000.out [] 0 p388 (by first|exact q388|exact od D1|(have e_:=(Kd.N_reads' HO_365000.out).1;omega))
          obtain ⟨ua388_0,uc388_0,rfl,ul388_0,ge388_0⟩:=Kd.FK_slice_open hMe388
          have hv388_0:=hcc388 0 _ rfl
          rw [Nat.add_zero,show ((Kd.slice 5 (Kd.int .u8))).sz=1 from rfl,Nat.mul_one] at hv388_0
          replace hv388_0:=Option.some.inj (hv388_0.symm.trans hx388_0)
          injection hv388_0 with hva_ hvn_ hvc_
          rw [hva_] at ge388_0
          rw [hvc_] at ul388_0
          have HL388_0:=am (show Kd.V (Kd.int .u8) 5 _ w.heap.size _ _ (rd_L1 t358 0) from Kd.V_mk ul388_0 ge388_0)
          clear hva_ hvn_ hvc_ ge388_0 ul388_0
          clear hcc388 hce388
          have qi388:(0 < t358.length)=True:=eq_true D23
          (try rw [show ((0:Int)).toNat=0 from rfl] at hx388_0)
          (try rw [Addr.add_zero'] at hx388_0)
          have HR388_0:=am hi388_0
          have HC388_0:=am hl388_0
          clear hi388_0 hl388_0
          replace p388:=eq_true p388
          replace q388:=eq_true q388
          go_wp2
          repeat (go_quiet (fail);try go_wp2)
          go_meet
          case rel=>exact ⟨_,((t368 != false)),D2,H',⟨D86⟩,⟨yR HO_6⟩,⟨D42⟩,⟨D41⟩,⟨D40⟩,⟨D43⟩,⟨yB BK364⟩,⟨yB BK369⟩,⟨yB BK374⟩,⟨yB BK385⟩,⟨yW HB⟩⟩
         rw [if_neg c82] at H
         exact absurd H D52
        rw [if_neg c81] at H
        have c81b0:(t386 == t375)=false:=beq_eq_false_iff_ne.mpr c81
        have c81b1:(t386 != t375)=true:=bne_iff_ne.mpr c81
        (first|rw [c81b0]|(simp only [i64_w,i32_w];rw [c81b0])|skip)
        have H':=am H
        clear H
        go_wp2
        repeat (go_quiet (fail);try go_wp2)
        go_meet
        case rel=>exact ⟨_,(true),D2,H',⟨D86⟩,⟨yR HO_6⟩,⟨D42⟩,⟨D41⟩,⟨D40⟩,⟨D43⟩,⟨yB BK364⟩,⟨yB BK369⟩,⟨yB BK374⟩,⟨yB BK385⟩,⟨yW HB⟩⟩
       replace c80:=Bool.eq_false_iff.mpr c80
       subst c80
       replace H:=yn H
       have H':=am H
       clear H
       go_wp2
       repeat (go_quiet (fail);try go_wp2)
       go_meet
       case rel=>exact ⟨_,(true),D2,H',⟨D86⟩,⟨yR HO_6⟩,⟨D42⟩,⟨D41⟩,⟨D40⟩,⟨D43⟩,⟨yB BK364⟩,⟨yB BK369⟩,⟨yB BK374⟩,⟨yB BK385⟩,⟨yW HB⟩⟩
      replace c79:=Bool.eq_false_iff.mpr c79
      subst c79
      replace H:=yn H
      have H':=am H
      clear H
      go_wp2
      repeat (go_quiet (fail);try go_wp2)
      go_meet
      case rel=>exact ⟨_,(true),D2,H',⟨D86⟩,⟨yR HO_6⟩,⟨D42⟩,⟨D41⟩,⟨D40⟩,⟨D43⟩,⟨yB BK364⟩,⟨yB BK369⟩,⟨yB BK374⟩,⟨yB BK385⟩,⟨yW HB⟩⟩
     case rest=>as_aux_lemma=>
      clear HC67
      try clear c1
      try clear c2
      try clear p2
      try clear c3
      try clear c3b0
      try clear p3
      try clear q3
      try clear hx3
      try clear qi3
      try clear c4
      try clear c5
      try clear c6
      try clear p6
      try clear c7
      try clear c8
      try clear c9
      try clear c14
      try clear c17
      try clear c23
      try clear c24
      try clear c30
      try clear c30b0
      try clear c30b1
      try clear c30b2
      try clear c32
      try clear c33
      try clear c33b0
      try clear c33b1
      try clear c33b2
      try clear c34
      try clear c35
      try clear c37
      try clear c38
      try clear p38
      try clear q38
      try clear hx38
      try clear qi38
      try clear c40
      try clear c40b0
      try clear c40b1
      try clear c42
      try clear c43
      try clear c45
      try clear c50
      try clear c51
      try clear c53
      try clear c56
      try clear c57
      try clear c59
      try clear c62
      try clear c64
      try clear p64
      try clear c68
      try clear c69
      try clear c74
      try clear c75
      try clear c76
      try clear c79
      try clear c80
      try clear c81
      try clear c81b0
      try clear c81b1
      try clear c82
      try clear c82b0
      try clear c82b1
      try clear c83
      try clear c83b0
      try clear c83b1
      try clear c83b2
      try clear c84
      try clear c85
      try clear c86
      try clear c88
      try clear c89
      try clear c90
      try clear hcz13_0
      try clear hcz18_0
      try clear hcz19_0
      try clear hcz25_0
      try clear hcz26_0
      try clear hcz28_0
      try clear hcz36_0
      try clear hcz38_0
      try clear hcz44_0
      try clear hcz46_0
      try clear hcz48_0
      try clear hcz52_0
      try clear hcz54_0
      try clear hcz58_0
      try clear hcz60_0
      try clear hcz70_0
      try clear hcz77_0
      try clear hcz87_0
      try clear hcz91_0
      try clear hfz13_0
      try clear hfz18_0
      try clear hfz19_0
      try clear hfz25_0
      try clear hfz26_0
      try clear hfz28_0
      try clear hfz36_0
      try clear hfz38_0
      try clear hfz44_0
      try clear hfz46_0
      try clear hfz48_0
      try clear hfz52_0
      try clear hfz54_0
      try clear hfz58_0
      try clear hfz60_0
      try clear hfz70_0
      try clear hfz77_0
      try clear hfz87_0
      try clear hfz91_0
      try clear hx388_0
      try clear p2
      try clear p388
      try clear p6
      try clear q388
      obtain ⟨kq,x142_66,rfl,HA,HJ66,HO_6,HO_365000,HO_370000,HO_375000,HO_386000,BK364,BK369,BK374,BK385,HB⟩:=hcut
      cases kq with
      | zero=>exact absurd HA.out (by simp [laws_FnMatrices.j1])
      | succ kj66 =>
       have H:=HA.out
       clear HA
       simp only [laws_FnMatrices.j1] at H
       by_cases c92:x142_66=true
       ·subst c92
        replace H:=yt H
        obtain rfl:=Option.some.inj H
        go_wp2
        repeat (go_quiet (fail);try go_wp2)
        go_ret
        exact ⟨D0,yW HB⟩
       replace c92:=Bool.eq_false_iff.mpr c92
       subst c92
       replace H:=yn H
       have H':=am H
       clear H
       go_wp2
       repeat (go_quiet (fail);try go_wp2)
       go_meet
       case rel=>exact ⟨_,H',⟨by have:=HJ8.out;have:=HJ66.out;first|omega|exact Nat.le_refl _⟩,⟨yR HO_6⟩,⟨by refine sN ?_;exact Kd.N_mono HO_365000.out (fun _ hk=>⟨hk.1,⟨hk.2.1,⟨hk.2.2.1,⟨hk.2.2.2.2.1,⟨hk.2.2.2.2.2.1,hk.2.2.2.2.2.2.1⟩⟩⟩⟩⟩)⟩,⟨by refine sN ?_;exact Kd.N_mono HO_370000.out (fun _ hk=>⟨hk.1,⟨hk.2.1,⟨hk.2.2.1,⟨hk.2.2.2.2.1,⟨hk.2.2.2.2.2.1,hk.2.2.2.2.2.2.1⟩⟩⟩⟩⟩)⟩,⟨by refine sN ?_;exact Kd.N_mono HO_375000.out (fun _ hk=>⟨hk.1,⟨hk.2.1,⟨hk.2.2.1,⟨hk.2.2.2.2.1,⟨hk.2.2.2.2.2.1,hk.2.2.2.2.2.2.1⟩⟩⟩⟩⟩)⟩,⟨yB BK364⟩,⟨yB BK369⟩,⟨yB BK374⟩,⟨yW HB⟩⟩
    replace c64:=Bool.eq_false_iff.mpr c64
    subst c64
    replace H:=yn H
    have H':=am H
    clear H
    go_wp2
    repeat (go_quiet (fail);try go_wp2)
    go_meet
    case rel=>exact ⟨_,H',⟨D86⟩,⟨yR HO_6⟩,⟨yN HO_365000⟩,⟨yN HO_370000⟩,⟨yN HO_375000⟩,⟨yB BK364⟩,⟨yB BK369⟩,⟨yB BK374⟩,⟨yW HB⟩⟩
   case rest=>as_aux_lemma=>
    clear HC63
    try clear c1
    try clear c2
    try clear p2
    try clear c3
    try clear c3b0
    try clear p3
    try clear q3
    try clear hx3
    try clear qi3
    try clear c4
    try clear c5
    try clear c6
    try clear p6
    try clear c7
    try clear c8
    try clear c9
    try clear c14
    try clear c17
    try clear c23
    try clear c24
    try clear c30
    try clear c30b0
    try clear c30b1
    try clear c30b2
    try clear c32
    try clear c33
    try clear c33b0
    try clear c33b1
    try clear c33b2
    try clear c34
    try clear c35
    try clear c37
    try clear c38
    try clear p38
    try clear q38
    try clear hx38
    try clear qi38
    try clear c40
    try clear c40b0
    try clear c40b1
    try clear c42
    try clear c43
    try clear c45
    try clear c50
    try clear c51
    try clear c53
    try clear c56
    try clear c57
    try clear c59
    try clear c62
    try clear c64
    try clear p64
    try clear c68
    try clear c69
    try clear c74
    try clear c75
    try clear c76
    try clear c79
    try clear c80
    try clear c81
    try clear c81b0
    try clear c81b1
    try clear c82
    try clear c82b0
    try clear c82b1
    try clear c83
    try clear c83b0
    try clear c83b1
    try clear c83b2
    try clear c84
    try clear c85
    try clear c86
    try clear c88
    try clear c89
    try clear c90
    try clear c92
    try clear hcz13_0
    try clear hcz18_0
    try clear hcz19_0
    try clear hcz25_0
    try clear hcz26_0
    try clear hcz28_0
    try clear hcz36_0
    try clear hcz38_0
    try clear hcz44_0
    try clear hcz46_0
    try clear hcz48_0
    try clear hcz52_0
    try clear hcz54_0
    try clear hcz58_0
    try clear hcz60_0
    try clear hcz70_0
    try clear hcz77_0
    try clear hcz87_0
    try clear hcz91_0
    try clear hfz13_0
    try clear hfz18_0
    try clear hfz19_0
    try clear hfz25_0
    try clear hfz26_0
    try clear hfz28_0
    try clear hfz36_0
    try clear hfz38_0
    try clear hfz44_0
    try clear hfz46_0
    try clear hfz48_0
    try clear hfz52_0
    try clear hfz54_0
    try clear hfz58_0
    try clear hfz60_0
    try clear hfz70_0
    try clear hfz77_0
    try clear hfz87_0
    try clear hfz91_0
    try clear hx388_0
    try clear p2
    try clear p3
    try clear p38
    try clear p388
    try clear p6
    try clear p64
    try clear q3
    try clear q38
    try clear q388
    obtain ⟨kq,HA,HJ62,HO_6,HO_365000,HO_370000,HO_375000,BK364,BK369,BK374,HB⟩:=hcut
    cases kq with
    | zero=>exact absurd HA.out (by simp [laws_FnMatrices.j2])
    | succ kj62 =>
     have H:=HA.out
     clear HA
     simp only [laws_FnMatrices.j2] at H
     have HC93:=am H
     clear H
     go_upto_if 143 with (fail)
     repeat (go_quiet (fail);go_upto_if 143 with (fail))
     go_cut [] (fun wc=>∃ (kq:Nat),Aside0 (laws_FnMatrices.j6 kq l1=some r)∧Aside0 (kq≤kj62)∧Aside0 (Kd.N (Kd.slice 5 (Kd.int .u8)) 57 wc w.heap.size (fun k_=>some k_ ≠ ((.slice Ao16 t365.length co16):Value).ownBlock∧some k_ ≠ ((.slice Ao22 t370.length co22):Value).ownBlock∧k_ ≠ gb364∧k_ ≠ gb369∧k_ ≠ gb374) (.slice Ao12 t358.length co12) t358)∧Aside0 (Kd.N (Kd.slice 5 (Kd.int .u8)) 57 wc w.heap.size (fun k_=>some k_ ≠ ((.slice Ao12 t358.length co12):Value).ownBlock∧some k_ ≠ ((.slice Ao22 t370.length co22):Value).ownBlock∧k_ ≠ gb364∧k_ ≠ gb369∧k_ ≠ gb374) (.slice Ao16 t365.length co16) t365)∧Aside0 (Kd.N (Kd.slice 5 (Kd.int .u8)) 57 wc w.heap.size (fun k_=>some k_ ≠ ((.slice Ao12 t358.length co12):Value).ownBlock∧some k_ ≠ ((.slice Ao16 t365.length co16):Value).ownBlock∧k_ ≠ gb364∧k_ ≠ gb369∧k_ ≠ gb374) (.slice Ao22 t370.length co22) t370)∧Aside0 (wc.heap[gb364]? = some (.cells #[(.slice Ao12 t358.length co12)] 43 (0,0)))∧Aside0 (wc.heap[gb369]? = some (.cells #[(.slice Ao16 t365.length co16)] 43 (0,0)))∧Aside0 (wc.heap[gb374]? = some (.cells #[(.slice Ao22 t370.length co22)] 43 (0,0)))∧Aside0 (Below w.heap.size w wc))
     case first=>as_aux_lemma=>
      have H:=HC93.out
      clear HC93
      by_cases c94:t368=true
      ·subst c94
       replace H:=yt H
       obtain ⟨⟨t389,t392⟩,A95,H⟩:=yo H
       try dsimp only at H
       obtain ⟨⟨t394,t397⟩,A96,H⟩:=yo H
       try dsimp only at H
       obtain ⟨⟨t399,t402⟩,A97,H⟩:=yo H
       try dsimp only at H
       obtain ⟨⟨t404,t407⟩,A98,H⟩:=yo H
       try dsimp only at H
       have HC99:=am H
       clear H
       have hnb100:=NB364_369.out
       have hnc100:=NB369_364.out
       have hnb101:=NB364_374.out
       have hnc101:=NB374_364.out
       obtain ⟨hcz102_0,hfz102_0⟩:=yk1 BK364
       have hnb103:=NB369_374.out
       have hnc103:=NB374_369.out
       obtain ⟨hcz104_0,hfz104_0⟩:=yk1 BK369
       go_upto_region 20 with (first|(go_at_call 79;have hz_:=w105;clear hz_;(with_reducible refine (impl_Product.calls kj62 _ _ t365 _ _ t358 t394 t397 _ (by refine (Kd.N_reads' (e:=57) (base:=w.heap.size) (ok:=fun k_=>(((some k_ ≠ (v362:Value).ownBlock∧(some k_ ≠ (.slice Ao12 t358.length co12:Value).ownBlock∧(some k_ ≠ (.slice Ao22 t370.length co22:Value).ownBlock∧(k_ ≠ gb364∧(k_ ≠ gb369∧k_ ≠ gb374)))))∧some k_ ≠ (.slice Ao107 t389.length co107:Value).ownBlock)∧k_ ≠ gb393)) (n:=t365.length) (c:=co16) ?_).2.2;exact D55) (by exact (Kd.N_reads' HO_370000.out).2.1) (by refine (Kd.N_reads' (e:=57) (base:=w.heap.size) (ok:=fun k_=>(((some k_ ≠ (v362:Value).ownBlock∧(some k_ ≠ (.slice Ao16 t365.length co16:Value).ownBlock∧(some k_ ≠ (.slice Ao22 t370.length co22:Value).ownBlock∧(k_ ≠ gb364∧(k_ ≠ gb369∧k_ ≠ gb374)))))∧some k_ ≠ (.slice Ao107 t389.length co107:Value).ownBlock)∧k_ ≠ gb393)) (n:=t358.length) (c:=co12) ?_).2.2;exact D56) (by exact (Kd.N_reads' HO_365000.out).2.1) A96.out).mono ?_);rintro e w114 ⟨v395,rfl,ho0,hb⟩;have HO396:=am (Kd.N_lower (Kd.N_mono (ok':=fun k_=>some k_ ≠ (v362:Value).ownBlock∧some k_ ≠ (.slice Ao12 t358.length co12:Value).ownBlock∧some k_ ≠ (.slice Ao16 t365.length co16:Value).ownBlock∧some k_ ≠ (.slice Ao22 t370.length co22:Value).ownBlock∧some k_ ≠ (.slice Ao107 t389.length co107:Value).ownBlock∧k_ ≠ gb364∧k_ ≠ gb369∧k_ ≠ gb374∧k_ ≠ gb393) (Kd.S_N (Kd.S_bound ho0)) (fun k_ hk_=>⟨(Kd.fresh' (Kd.R_lt D131) k_ hk_.2.1),(Kd.fresh' (Kd.N_lt D56) k_ hk_.2.1),(Kd.fresh' (Kd.N_lt D55) k_ hk_.2.1),(Kd.fresh' (Kd.N_lt D114) k_ hk_.2.1),(Kd.fresh' (Kd.N_lt D126) k_ hk_.2.1),(Kd.freshB (g:=gb364) (o:=.cells #[.slice Ao12 t358.length co12] 43 (0,0)) (yF BK364) k_ hk_.2.1),(Kd.freshB (g:=gb369) (o:=.cells #[.slice Ao16 t365.length co16] 43 (0,0)) (yF BK369) k_ hk_.2.1),(Kd.freshB (g:=gb374) (o:=.cells #[.slice Ao22 t370.length co22] 43 (0,0)) (yF BK374) k_ hk_.2.1),(Kd.freshB (g:=gb393) (o:=.cells #[.slice Ao107 t389.length co107] 43 (0,0)) (by refine sB ?_;refine blk_put (cs:=#[.slice none 0 0]) ?_ 0 _ rfl;exact yB BK393) k_ hk_.2.1)⟩)) (pz (yW HB)));replace HO_6:=am (Kd.R_below D131 hb);replace HO_365000:=am (Kd.N_elder' D56 D5 hb);replace HO_370000:=am (Kd.N_elder' D55 D5 hb);replace HO_375000:=am (Kd.N_elder' D114 D5 hb);replace HO391:=am (Kd.N_elder' D126 D5 hb);replace BK364:=am (qb (g:=gb364) (o:=.cells #[.slice Ao12 t358.length co12] 43 (0,0)) (yF BK364) hb);replace BK369:=am (qb (g:=gb369) (o:=.cells #[.slice Ao16 t365.length co16] 43 (0,0)) (yF BK369) hb);replace BK374:=am (qb (g:=gb374) (o:=.cells #[.slice Ao22 t370.length co22] 43 (0,0)) (yF BK374) hb);replace BK393:=am (qb (g:=gb393) (o:=.cells #[.slice Ao107 t389.length co107] 43 (0,0)) (by refine sB ?_;refine blk_put (cs:=#[.slice none 0 0]) ?_ 0 _ rfl;exact yB BK393) hb);replace HB:=yH HB hb;clear hb ho0)|((with_reducible refine gD 19 ?_);(try (refine gate_guard D35 ?_;dsimp only));refine gB (cs:=#[.slice none 0 0]) 43 ?_;intro gb393 hg w106 hbox hb;replace HO_6:=bR HO_6 hb;replace HO_365000:=oN HO_365000 hg hb;replace HO_370000:=oN HO_370000 hg hb;replace HO_375000:=oN HO_375000 hg hb;replace HO391:=oN HO391 hg hb;have BK393:=am (hbox);have GW393:=ye HB hg;replace HB:=yH HB hb;have NB364_393:=yl BK364 hg;have NB393_364:=yg BK364 hg;replace BK364:=yb BK364 hb;have NB369_393:=yl BK369 hg;have NB393_369:=yg BK369 hg;replace BK369:=yb BK369 hb;have NB374_393:=yl BK374 hg;have NB393_374:=yg BK374 hg;replace BK374:=yb BK374 hb;have GE393:=GW393;clear hb hbox hg;obtain ⟨Ao107,co107,eo107⟩:=Kd.N_slice HO391.out;subst eo107;have hnb108:=NB393_364.out;have hnc108:=NB364_393.out;have hnb109:=NB393_369.out;have hnc109:=NB369_393.out;have hnb110:=NB393_374.out;have hnc110:=NB374_393.out;obtain ⟨hcz111_0,hfz111_0⟩:=yk1 BK393;obtain ⟨hcz112_0,hfz112_0⟩:=yk1 BK369;obtain ⟨hcz113_0,hfz113_0⟩:=yk1 BK364)|(go_at_call 79;(with_reducible refine (impl_Product.calls kj62 _ _ t358 _ _ t365 t389 t392 _ (yc (Kd.N_reads' HO_365000.out).2.2) (Kd.N_reads' HO_365000.out).2.1 (yc (Kd.N_reads' HO_370000.out).2.2) (Kd.N_reads' HO_370000.out).2.1 A95.out).mono ?_);rintro e w105 ⟨v390,rfl,ho0,hb⟩;have HO391:=am (Kd.N_lower (Kd.N_mono (ok':=fun k_=>some k_ ≠ (v362:Value).ownBlock∧some k_ ≠ (.slice Ao12 t358.length co12:Value).ownBlock∧some k_ ≠ (.slice Ao16 t365.length co16:Value).ownBlock∧some k_ ≠ (.slice Ao22 t370.length co22:Value).ownBlock∧k_ ≠ gb364∧k_ ≠ gb369∧k_ ≠ gb374) (Kd.S_N (Kd.S_bound ho0)) (fun k_ hk_=>⟨(Kd.fresh' (Kd.R_lt (yR HO_6)) k_ hk_.2.1),(Kd.fresh' (Kd.N_lt (yN HO_365000)) k_ hk_.2.1),(Kd.fresh' (Kd.N_lt (yN HO_370000)) k_ hk_.2.1),(Kd.fresh' (Kd.N_lt (yN HO_375000)) k_ hk_.2.1),(yz BK364 k_ hk_.2.1),(yz BK369 k_ hk_.2.1),(yz BK374 k_ hk_.2.1)⟩)) (pz (yW HB)));replace HO_6:=bR HO_6 hb;replace HO_365000:=eN HO_365000 D5 hb;replace HO_370000:=eN HO_370000 D5 hb;replace HO_375000:=eN HO_375000 D5 hb;replace BK364:=yb BK364 hb;replace BK369:=yb BK369 hb;replace BK374:=yb BK374 hb;replace HB:=yH HB hb;clear hb ho0)|((with_reducible refine gD 21 ?_);(try (refine gate_guard D35 ?_;dsimp only));refine gB (cs:=#[.slice none 0 0]) 43 ?_;intro gb398 hg w115 hbox hb;replace HO_6:=bR HO_6 hb;replace HO_365000:=oN HO_365000 hg hb;replace HO_370000:=oN HO_370000 hg hb;replace HO_375000:=oN HO_375000 hg hb;replace HO391:=oN HO391 hg hb;replace HO396:=oN HO396 hg hb;have BK398:=am (hbox);have GW398:=ye HB hg;replace HB:=yH HB hb;have NB364_398:=yl BK364 hg;have NB398_364:=yg BK364 hg;replace BK364:=yb BK364 hb;have NB369_398:=yl BK369 hg;have NB398_369:=yg BK369 hg;replace BK369:=yb BK369 hb;have NB374_398:=yl BK374 hg;have NB398_374:=yg BK374 hg;replace BK374:=yb BK374 hb;have NB393_398:=yl BK393 hg;have NB398_393:=yg BK393 hg;replace BK393:=yb BK393 hb;have GE398:=GW398;clear hb hbox hg;obtain ⟨Ao116,co116,eo116⟩:=Kd.N_slice HO396.out;subst eo116;have hnb117:=NB398_364.out;have hnc117:=NB364_398.out;have hnb118:=NB398_369.out;have hnc118:=NB369_398.out;have hnb119:=NB398_374.out;have hnc119:=NB374_398.out;have hnb120:=NB398_393.out;have hnc120:=NB393_398.out;obtain ⟨hcz121_0,hfz121_0⟩:=yk1 BK398;obtain ⟨hcz122_0,hfz122_0⟩:=yk1 BK364)|(go_at_call 80;(with_reducible refine (impl_Identity.calls kj62 (t358.length:Int) t399 t402 _ A97.out).mono ?_);rintro e w123 ⟨v400,rfl,ho0,hb⟩;have HO401:=am (Kd.N_lower (Kd.N_mono (ok':=fun k_=>some k_ ≠ (v362:Value).ownBlock∧some k_ ≠ (.slice Ao12 t358.length co12:Value).ownBlock∧some k_ ≠ (.slice Ao16 t365.length co16:Value).ownBlock∧some k_ ≠ (.slice Ao22 t370.length co22:Value).ownBlock∧some k_ ≠ (.slice Ao107 t389.length co107:Value).ownBlock∧some k_ ≠ (.slice Ao116 t394.length co116:Value).ownBlock∧k_ ≠ gb364∧k_ ≠ gb369∧k_ ≠ gb374∧k_ ≠ gb393∧k_ ≠ gb398) (Kd.S_N (Kd.S_bound ho0)) (fun k_ hk_=>⟨(Kd.fresh' (Kd.R_lt D130) k_ hk_.2.1),(Kd.fresh' (Kd.N_lt D113) k_ hk_.2.1),(Kd.fresh' (Kd.N_lt D112) k_ hk_.2.1),(Kd.fresh' (Kd.N_lt D111) k_ hk_.2.1),(Kd.fresh' (Kd.N_lt D125) k_ hk_.2.1),(Kd.fresh' (Kd.N_lt D124) k_ hk_.2.1),(Kd.freshB (g:=gb364) (o:=.cells #[.slice Ao12 t358.length co12] 43 (0,0)) (yF BK364) k_ hk_.2.1),(Kd.freshB (g:=gb369) (o:=.cells #[.slice Ao16 t365.length co16] 43 (0,0)) (yF BK369) k_ hk_.2.1),(Kd.freshB (g:=gb374) (o:=.cells #[.slice Ao22 t370.length co22] 43 (0,0)) (yF BK374) k_ hk_.2.1),(Kd.freshB (g:=gb393) (o:=.cells #[.slice Ao107 t389.length co107] 43 (0,0)) (yF BK393) k_ hk_.2.1),(Kd.freshB (g:=gb398) (o:=.cells #[.slice Ao116 t394.length co116] 43 (0,0)) (by refine sB ?_;refine blk_put (cs:=#[.slice none 0 0]) ?_ 0 _ rfl;exact yB BK398) k_ hk_.2.1)⟩)) (pz (yW HB)));replace HO_6:=am (Kd.R_below D130 hb);replace HO_365000:=am (Kd.N_elder' D113 D5 hb);replace HO_370000:=am (Kd.N_elder' D112 D5 hb);replace HO_375000:=am (Kd.N_elder' D111 D5 hb);replace HO391:=am (Kd.N_elder' D125 D5 hb);replace HO396:=am (Kd.N_elder' D124 D5 hb);replace BK364:=am (qb (g:=gb364) (o:=.cells #[.slice Ao12 t358.length co12] 43 (0,0)) (yF BK364) hb);replace BK369:=am (qb (g:=gb369) (o:=.cells #[.slice Ao16 t365.length co16] 43 (0,0)) (yF BK369) hb);replace BK374:=am (qb (g:=gb374) (o:=.cells #[.slice Ao22 t370.length co22] 43 (0,0)) (yF BK374) hb);replace BK393:=am (qb (g:=gb393) (o:=.cells #[.slice Ao107 t389.length co107] 43 (0,0)) (yF BK393) hb);replace BK398:=am (qb (g:=gb398) (o:=.cells #[.slice Ao116 t394.length co116] 43 (0,0)) (by refine sB ?_;refine blk_put (cs:=#[.slice none 0 0]) ?_ 0 _ rfl;exact yB BK398) hb);replace HB:=yH HB hb;clear hb ho0)|((with_reducible refine gD 23 ?_);(try (refine gate_guard D35 ?_;dsimp only));refine gB (cs:=#[.slice none 0 0]) 43 ?_;intro gb403 hg w124 hbox hb;replace HO_6:=bR HO_6 hb;replace HO_365000:=oN HO_365000 hg hb;replace HO_370000:=oN HO_370000 hg hb;replace HO_375000:=oN HO_375000 hg hb;replace HO391:=oN HO391 hg hb;replace HO396:=oN HO396 hg hb;replace HO401:=oN HO401 hg hb;have BK403:=am (hbox);have GW403:=ye HB hg;replace HB:=yH HB hb;have NB364_403:=yl BK364 hg;have NB403_364:=yg BK364 hg;replace BK364:=yb BK364 hb;have NB369_403:=yl BK369 hg;have NB403_369:=yg BK369 hg;replace BK369:=yb BK369 hb;have NB374_403:=yl BK374 hg;have NB403_374:=yg BK374 hg;replace BK374:=yb BK374 hb;have NB393_403:=yl BK393 hg;have NB403_393:=yg BK393 hg;replace BK393:=yb BK393 hb;have NB398_403:=yl BK398 hg;have NB403_398:=yg BK398 hg;replace BK398:=yb BK398 hb;have GE403:=GW403;clear hb hbox hg;obtain ⟨Ao125,co125,eo125⟩:=Kd.N_slice HO401.out;subst eo125;have hnb126:=NB403_364.out;have hnc126:=NB364_403.out;have hnb127:=NB403_369.out;have hnc127:=NB369_403.out;have hnb128:=NB403_374.out;have hnc128:=NB374_403.out;have hnb129:=NB403_393.out;have hnc129:=NB393_403.out;have hnb130:=NB403_398.out;have hnc130:=NB398_403.out;obtain ⟨hcz131_0,hfz131_0⟩:=yk1 BK403;obtain ⟨hcz132_0,hfz132_0⟩:=yk1 BK364;obtain ⟨Ao133,co133,eo133⟩:=Kd.R_slice HO_6.out;subst eo133)|(go_at_call 39;(with_reducible refine (impl_Solve.calls kj62 _ _ t358 _ _ t361 t404 t407 _ (by refine (Kd.N_reads' (e:=57) (base:=w.heap.size) (ok:=fun k_=>(((((((some k_ ≠ (.slice Ao133 t361.length co133:Value).ownBlock∧(some k_ ≠ (.slice Ao16 t365.length co16:Value).ownBlock∧(some k_ ≠ (.slice Ao22 t370.length co22:Value).ownBlock∧(k_ ≠ gb364∧(k_ ≠ gb369∧k_ ≠ gb374)))))∧some k_ ≠ (.slice Ao107 t389.length co107:Value).ownBlock)∧k_ ≠ gb393)∧some k_ ≠ (.slice Ao116 t394.length co116:Value).ownBlock)∧k_ ≠ gb398)∧some k_ ≠ (.slice Ao125 t399.length co125:Value).ownBlock)∧k_ ≠ gb403)) (n:=t358.length) (c:=co12) ?_).2.2;exact D110) (by exact (Kd.N_reads' HO_365000.out).2.1) (by refine (Kd.R_reads' (e:=5) (base:=w.heap.size) (ok:=fun k_=>True) (n:=t361.length) (c:=co133) ?_).2.2;exact D69) (by exact (Kd.R_reads' HO_6.out).2.1) A98.out).mono ?_);rintro e w134 ⟨v405,rfl,ho0,hb⟩;replace HO_365000:=am (Kd.N_elder' D110 (Kd.R_base ho0) hb);replace HO_370000:=am (Kd.N_elder' (by refine sN ?_;exact (Kd.N_mono (Kd.N_far (p:=⟨gb403,0,none⟩) (Kd.N_mono HO_370000.out (fun k_ hk=>(⟨hk,hk.2⟩:_∧k_ ≠ gb403))) (fun _ hk=>hk.2) (.slice Ao125 t399.length co125)) (fun _ h_=>h_.1))) (Kd.R_base ho0) hb);replace HO_375000:=am (Kd.N_elder' (by refine sN ?_;exact (Kd.N_mono (Kd.N_far (p:=⟨gb403,0,none⟩) (Kd.N_mono HO_375000.out (fun k_ hk=>(⟨hk,hk.2⟩:_∧k_ ≠ gb403))) (fun _ hk=>hk.2) (.slice Ao125 t399.length co125)) (fun _ h_=>h_.1))) (Kd.R_base ho0) hb);replace HO391:=am (Kd.N_elder' (by refine sN ?_;exact (Kd.N_mono (Kd.N_far (p:=⟨gb403,0,none⟩) (Kd.N_mono HO391.out (fun k_ hk=>(⟨hk,hk.2⟩:_∧k_ ≠ gb403))) (fun _ hk=>hk.2) (.slice Ao125 t399.length co125)) (fun _ h_=>h_.1))) (Kd.R_base ho0) hb);replace HO396:=am (Kd.N_elder' (by refine sN ?_;exact (Kd.N_mono (Kd.N_far (p:=⟨gb403,0,none⟩) (Kd.N_mono HO396.out (fun k_ hk=>(⟨hk,hk.2⟩:_∧k_ ≠ gb403))) (fun _ hk=>hk.2) (.slice Ao125 t399.length co125)) (fun _ h_=>h_.1))) (Kd.R_base ho0) hb);replace HO401:=am (Kd.N_elder' (by refine sN ?_;exact (Kd.N_mono (Kd.N_far (p:=⟨gb403,0,none⟩) (Kd.N_mono HO401.out (fun k_ hk=>(⟨hk,hk.2⟩:_∧k_ ≠ gb403))) (fun _ hk=>hk.2) (.slice Ao125 t399.length co125)) (fun _ h_=>h_.1))) (Kd.R_base ho0) hb);have HO406:=am (Kd.R_lower (Kd.R_new' ho0 (Kd.R_lt D69)) (pz (yW HB)));replace HO_6:=am (Kd.R_elder' D69 (Kd.R_base ho0) hb);replace BK364:=am (qb (g:=gb364) (o:=.cells #[.slice Ao12 t358.length co12] 43 (0,0)) (yF BK364) hb);replace BK369:=am (qb (g:=gb369) (o:=.cells #[.slice Ao16 t365.length co16] 43 (0,0)) (yF BK369) hb);replace BK374:=am (qb (g:=gb374) (o:=.cells #[.slice Ao22 t370.length co22] 43 (0,0)) (yF BK374) hb);replace BK393:=am (qb (g:=gb393) (o:=.cells #[.slice Ao107 t389.length co107] 43 (0,0)) (yF BK393) hb);replace BK398:=am (qb (g:=gb398) (o:=.cells #[.slice Ao116 t394.length co116] 43 (0,0)) (yF BK398) hb);replace BK403:=am (qb (g:=gb403) (o:=.cells #[.slice Ao125 t399.length co125] 43 (0,0)) (by refine sB ?_;refine blk_put (cs:=#[.slice none 0 0]) ?_ 0 _ rfl;exact yB BK403) hb);replace HB:=yH HB hb;clear hb ho0))
       (try simp only [Act.put,q1,q2,q3])
       go_cut [200] (fun v200 wc=>∃ (kq:Nat) (x200_98:Bool),v200 = .bool x200_98∧Aside0 (laws_FnMatrices.j3 kq l1 t361 t404 t407 x200_98 t358=some r)∧Aside0 (kq≤kj62)∧Aside0 (Kd.R (Kd.int .u8) 5 wc w.heap.size (fun k_=>some k_ ≠ (v405:Value).ownBlock) (.slice Ao133 t361.length co133) t361)∧Aside0 (Kd.R (Kd.int .u8) 5 wc w.heap.size (fun k_=>some k_ ≠ ((.slice Ao133 t361.length co133):Value).ownBlock) v405 t404)∧Aside0 (Kd.N (Kd.slice 5 (Kd.int .u8)) 57 wc w.heap.size (fun k_=>some k_ ≠ ((.slice Ao133 t361.length co133):Value).ownBlock∧some k_ ≠ (v405:Value).ownBlock∧some k_ ≠ ((.slice Ao16 t365.length co16):Value).ownBlock∧some k_ ≠ ((.slice Ao22 t370.length co22):Value).ownBlock∧some k_ ≠ ((.slice Ao107 t389.length co107):Value).ownBlock∧some k_ ≠ ((.slice Ao116 t394.length co116):Value).ownBlock∧some k_ ≠ ((.slice Ao125 t399.length co125):Value).ownBlock∧k_ ≠ gb364∧k_ ≠ gb369∧k_ ≠ gb374∧k_ ≠ gb393∧k_ ≠ gb398∧k_ ≠ gb403) (.slice Ao12 t358.length co12) t358)∧Aside0 (Kd.N (Kd.slice 5 (Kd.int .u8)) 57 wc w.heap.size (fun k_=>some k_ ≠ ((.slice Ao133 t361.length co133):Value).ownBlock∧some k_ ≠ (v405:Value).ownBlock∧some k_ ≠ ((.slice Ao12 t358.length co12):Value).ownBlock∧some k_ ≠ ((.slice Ao22 t370.length co22):Value).ownBlock∧some k_ ≠ ((.slice Ao107 t389.length co107):Value).ownBlock∧some k_ ≠ ((.slice Ao116 t394.length co116):Value).ownBlock∧some k_ ≠ ((.slice Ao125 t399.length co125):Value).ownBlock∧k_ ≠ gb364∧k_ ≠ gb369∧k_ ≠ gb374∧k_ ≠ gb393∧k_ ≠ gb398∧k_ ≠ gb403) (.slice Ao16 t365.length co16) t365)∧Aside0 (Kd.N (Kd.slice 5 (Kd.int .u8)) 57 wc w.heap.size (fun k_=>some k_ ≠ ((.slice Ao133 t361.length co133):Value).ownBlock∧some k_ ≠ (v405:Value).ownBlock∧some k_ ≠ ((.slice Ao12 t358.length co12):Value).ownBlock∧some k_ ≠ ((.slice Ao16 t365.length co16):Value).ownBlock∧some k_ ≠ ((.slice Ao107 t389.length co107):Value).ownBlock∧some k_ ≠ ((.slice Ao116 t394.length co116):Value).ownBlock∧some k_ ≠ ((.slice Ao125 t399.length co125):Value).ownBlock∧k_ ≠ gb364∧k_ ≠ gb369∧k_ ≠ gb374∧k_ ≠ gb393∧k_ ≠ gb398∧k_ ≠ gb403) (.slice Ao22 t370.length co22) t370)∧Aside0 (Kd.N (Kd.slice 5 (Kd.int .u8)) 57 wc w.heap.size (fun k_=>some k_ ≠ ((.slice Ao133 t361.length co133):Value).ownBlock∧some k_ ≠ (v405:Value).ownBlock∧some k_ ≠ ((.slice Ao12 t358.length co12):Value).ownBlock∧some k_ ≠ ((.slice Ao16 t365.length co16):Value).ownBlock∧some k_ ≠ ((.slice Ao22 t370.length co22):Value).ownBlock∧some k_ ≠ ((.slice Ao116 t394.length co116):Value).ownBlock∧some k_ ≠ ((.slice Ao125 t399.length co125):Value).ownBlock∧k_ ≠ gb364∧k_ ≠ gb369∧k_ ≠ gb374∧k_ ≠ gb393∧k_ ≠ gb398∧k_ ≠ gb403) (.slice Ao107 t389.length co107) t389)∧Aside0 (Kd.N (Kd.slice 5 (Kd.int .u8)) 57 wc w.heap.size (fun k_=>some k_ ≠ ((.slice Ao133 t361.length co133):Value).ownBlock∧some k_ ≠ (v405:Value).ownBlock∧some k_ ≠ ((.slice Ao12 t358.length co12):Value).ownBlock∧some k_ ≠ ((.slice Ao16 t365.length co16):Value).ownBlock∧some k_ ≠ ((.slice Ao22 t370.length co22):Value).ownBlock∧some k_ ≠ ((.slice Ao107 t389.length co107):Value).ownBlock∧some k_ ≠ ((.slice Ao125 t399.length co125):Value).ownBlock∧k_ ≠ gb364∧k_ ≠ gb369∧k_ ≠ gb374∧k_ ≠ gb393∧k_ ≠ gb398∧k_ ≠ gb403) (.slice Ao116 t394.length co116) t394)∧Aside0 (Kd.N (Kd.slice 5 (Kd.int .u8)) 57 wc w.heap.size (fun k_=>some k_ ≠ ((.slice Ao133 t361.length co133):Value).ownBlock∧some k_ ≠ (v405:Value).ownBlock∧some k_ ≠ ((.slice Ao12 t358.length co12):Value).ownBlock∧some k_ ≠ ((.slice Ao16 t365.length co16):Value).ownBlock∧some k_ ≠ ((.slice Ao22 t370.length co22):Value).ownBlock∧some k_ ≠ ((.slice Ao107 t389.length co107):Value).ownBlock∧some k_ ≠ ((.slice Ao116 t394.length co116):Value).ownBlock∧k_ ≠ gb364∧k_ ≠ gb369∧k_ ≠ gb374∧k_ ≠ gb393∧k_ ≠ gb398∧k_ ≠ gb403) (.slice Ao125 t399.length co125) t399)∧Aside0 (wc.heap[gb364]? = some (.cells #[(.slice Ao12 t358.length co12)] 43 (0,0)))∧Aside0 (wc.heap[gb369]? = some (.cells #[(.slice Ao16 t365.length co16)] 43 (0,0)))∧Aside0 (wc.heap[gb374]? = some (.cells #[(.slice Ao22 t370.length co22)] 43 (0,0)))∧Aside0 (wc.heap[gb393]? = some (.cells #[(.slice Ao107 t389.length co107)] 43 (0,0)))∧Aside0 (wc.heap[gb398]? = some (.cells #[(.slice Ao116 t394.length co116)] 43 (0,0)))∧Aside0 (wc.heap[gb403]? = some (.cells #[(.slice Ao125 t399.length co125)] 43 (0,0)))∧Aside0 (Below w.heap.size w wc))
       case first=>as_aux_lemma=>
        have H:=HC99.out
        clear HC99
        by_cases c135:t392=true
        ·subst c135
         replace H:=yt H
         by_cases c136:t397=true
         ·subst c136
          replace H:=yt H
          by_cases c137:t402=true
          ·subst c137
           replace H:=yt H
           obtain ⟨t408,A138,H⟩:=yo H
           by_cases c139:t408=true
           ·subst c139
            replace H:=yt H
            obtain ⟨t409,A140,H⟩:=yo H
            by_cases c141:t409=true
            ·subst c141
             replace H:=yt H
             have H':=am H
             clear H
             have hnb142:=NB393_364.out
             have hnc142:=NB364_393.out
             have hnb143:=NB393_369.out
             have hnc143:=NB369_393.out
             have hnb144:=NB393_374.out
             have hnc144:=NB374_393.out
             have hnb145:=NB393_398.out
             have hnc145:=NB398_393.out
             have hnb146:=NB393_403.out
             have hnc146:=NB403_393.out
             obtain ⟨hcz147_0,hfz147_0⟩:=yk1 BK393
             have hnb148:=NB403_364.out
             have hnc148:=NB364_403.out
             have hnb149:=NB403_369.out
             have hnc149:=NB369_403.out
             have hnb150:=NB403_374.out
             have hnc150:=NB374_403.out
             have hnb151:=NB403_398.out
             have hnc151:=NB398_403.out
             obtain ⟨hcz152_0,hfz152_0⟩:=yk1 BK403
             go_wp2_with (first|(go_at_call 76;have hz_:=w153;clear hz_;(with_reducible refine (laws_sameMatrices.calls kj62 _ _ t394 _ _ t399 true _ (yc (Kd.N_reads' HO396.out).2.2) (Kd.N_reads' HO396.out).2.1 (yc (Kd.N_reads' HO401.out).2.2) (Kd.N_reads' HO401.out).2.1 A140.out).mono ?_);rintro e w159 ⟨rfl,hb⟩;replace HO_6:=bR HO_6 hb;replace HO_365000:=bN HO_365000 hb;replace HO_370000:=bN HO_370000 hb;replace HO_375000:=bN HO_375000 hb;replace HO391:=bN HO391 hb;replace HO396:=bN HO396 hb;replace HO401:=bN HO401 hb;replace HO406:=bR HO406 hb;replace BK364:=yb BK364 hb;replace BK369:=yb BK369 hb;replace BK374:=yb BK374 hb;replace BK393:=yb BK393 hb;replace BK398:=yb BK398 hb;replace BK403:=yb BK403 hb;replace HB:=yH HB hb;clear hb;have hnb160:=NB364_369.out;have hnc160:=NB369_364.out;have hnb161:=NB364_374.out;have hnc161:=NB374_364.out;obtain ⟨hcz162_0,hfz162_0⟩:=yk1 BK364)|(go_at_call 76;(with_reducible refine (laws_sameMatrices.calls kj62 _ _ t389 _ _ t399 true _ (yc (Kd.N_reads' HO391.out).2.2) (Kd.N_reads' HO391.out).2.1 (yc (Kd.N_reads' HO401.out).2.2) (Kd.N_reads' HO401.out).2.1 A138.out).mono ?_);rintro e w153 ⟨rfl,hb⟩;replace HO_6:=bR HO_6 hb;replace HO_365000:=bN HO_365000 hb;replace HO_370000:=bN HO_370000 hb;replace HO_375000:=bN HO_375000 hb;replace HO391:=bN HO391 hb;replace HO396:=bN HO396 hb;replace HO401:=bN HO401 hb;replace HO406:=bR HO406 hb;replace BK364:=yb BK364 hb;replace BK369:=yb BK369 hb;replace BK374:=yb BK374 hb;replace BK393:=yb BK393 hb;replace BK398:=yb BK398 hb;replace BK403:=yb BK403 hb;replace HB:=yH HB hb;clear hb;have hnb154:=NB398_364.out;have hnc154:=NB364_398.out;have hnb155:=NB398_369.out;have hnc155:=NB369_398.out;have hnb156:=NB398_374.out;have hnc156:=NB374_398.out;obtain ⟨hcz157_0,hfz157_0⟩:=yk1 BK398;obtain ⟨hcz158_0,hfz158_0⟩:=yk1 BK403))
             go_meet
             case rel=>exact ⟨_,((t407 != ((t361.length:Int) == (t358.length:Int)))),D2,H',⟨D67⟩,⟨D81⟩,⟨D76⟩,⟨D30⟩,⟨D29⟩,⟨D28⟩,⟨D33⟩,⟨D32⟩,⟨D31⟩,⟨yB BK364⟩,⟨yB BK369⟩,⟨yB BK374⟩,⟨yB BK393⟩,⟨yB BK398⟩,⟨yB BK403⟩,⟨yW HB⟩⟩
            replace c141:=Bool.eq_false_iff.mpr c141
            subst c141
            replace H:=yn H
            have H':=am H
            clear H
            have hnb163:=NB393_364.out
            have hnc163:=NB364_393.out
            have hnb164:=NB393_369.out
            have hnc164:=NB369_393.out
            have hnb165:=NB393_374.out
            have hnc165:=NB374_393.out
            have hnb166:=NB393_398.out
            have hnc166:=NB398_393.out
            have hnb167:=NB393_403.out
            have hnc167:=NB403_393.out
            obtain ⟨hcz168_0,hfz168_0⟩:=yk1 BK393
            have hnb169:=NB403_364.out
            have hnc169:=NB364_403.out
            have hnb170:=NB403_369.out
            have hnc170:=NB369_403.out
            have hnb171:=NB403_374.out
            have hnc171:=NB374_403.out
            have hnb172:=NB403_398.out
            have hnc172:=NB398_403.out
            obtain ⟨hcz173_0,hfz173_0⟩:=yk1 BK403
            go_wp2_with (first|(go_at_call 76;have hz_:=w174;clear hz_;(with_reducible refine (laws_sameMatrices.calls kj62 _ _ t394 _ _ t399 false _ (yc (Kd.N_reads' HO396.out).2.2) (Kd.N_reads' HO396.out).2.1 (yc (Kd.N_reads' HO401.out).2.2) (Kd.N_reads' HO401.out).2.1 A140.out).mono ?_);rintro e w180 ⟨rfl,hb⟩;replace HO_6:=bR HO_6 hb;replace HO_365000:=bN HO_365000 hb;replace HO_370000:=bN HO_370000 hb;replace HO_375000:=bN HO_375000 hb;replace HO391:=bN HO391 hb;replace HO396:=bN HO396 hb;replace HO401:=bN HO401 hb;replace HO406:=bR HO406 hb;replace BK364:=yb BK364 hb;replace BK369:=yb BK369 hb;replace BK374:=yb BK374 hb;replace BK393:=yb BK393 hb;replace BK398:=yb BK398 hb;replace BK403:=yb BK403 hb;replace HB:=yH HB hb;clear hb)|(go_at_call 76;(with_reducible refine (laws_sameMatrices.calls kj62 _ _ t389 _ _ t399 true _ (yc (Kd.N_reads' HO391.out).2.2) (Kd.N_reads' HO391.out).2.1 (yc (Kd.N_reads' HO401.out).2.2) (Kd.N_reads' HO401.out).2.1 A138.out).mono ?_);rintro e w174 ⟨rfl,hb⟩;replace HO_6:=bR HO_6 hb;replace HO_365000:=bN HO_365000 hb;replace HO_370000:=bN HO_370000 hb;replace HO_375000:=bN HO_375000 hb;replace HO391:=bN HO391 hb;replace HO396:=bN HO396 hb;replace HO401:=bN HO401 hb;replace HO406:=bR HO406 hb;replace BK364:=yb BK364 hb;replace BK369:=yb BK369 hb;replace BK374:=yb BK374 hb;replace BK393:=yb BK393 hb;replace BK398:=yb BK398 hb;replace BK403:=yb BK403 hb;replace HB:=yH HB hb;clear hb;have hnb175:=NB398_364.out;have hnc175:=NB364_398.out;have hnb176:=NB398_369.out;have hnc176:=NB369_398.out;have hnb177:=NB398_374.out;have hnc177:=NB374_398.out;obtain ⟨hcz178_0,hfz178_0⟩:=yk1 BK398;obtain ⟨hcz179_0,hfz179_0⟩:=yk1 BK403))
            go_meet
            case rel=>exact ⟨_,(true),D2,H',⟨D67⟩,⟨D81⟩,⟨D76⟩,⟨D30⟩,⟨D29⟩,⟨D28⟩,⟨D33⟩,⟨D32⟩,⟨D31⟩,⟨yB BK364⟩,⟨yB BK369⟩,⟨yB BK374⟩,⟨yB BK393⟩,⟨yB BK398⟩,⟨yB BK403⟩,⟨yW HB⟩⟩
           replace c139:=Bool.eq_false_iff.mpr c139
           subst c139
           replace H:=yn H
           have H':=am H
           clear H
           have hnb181:=NB393_364.out
           have hnc181:=NB364_393.out
           have hnb182:=NB393_369.out
           have hnc182:=NB369_393.out
           have hnb183:=NB393_374.out
           have hnc183:=NB374_393.out
           have hnb184:=NB393_398.out
           have hnc184:=NB398_393.out
           have hnb185:=NB393_403.out
           have hnc185:=NB403_393.out
           obtain ⟨hcz186_0,hfz186_0⟩:=yk1 BK393
           have hnb187:=NB403_364.out
           have hnc187:=NB364_403.out
           have hnb188:=NB403_369.out
           have hnc188:=NB369_403.out
           have hnb189:=NB403_374.out
           have hnc189:=NB374_403.out
           have hnb190:=NB403_398.out
           have hnc190:=NB398_403.out
           obtain ⟨hcz191_0,hfz191_0⟩:=yk1 BK403
           go_wp2_with (first|(go_at_call 76;(with_reducible refine (laws_sameMatrices.calls kj62 _ _ t389 _ _ t399 false _ (yc (Kd.N_reads' HO391.out).2.2) (Kd.N_reads' HO391.out).2.1 (yc (Kd.N_reads' HO401.out).2.2) (Kd.N_reads' HO401.out).2.1 A138.out).mono ?_);rintro e w192 ⟨rfl,hb⟩;replace HO_6:=bR HO_6 hb;replace HO_365000:=bN HO_365000 hb;replace HO_370000:=bN HO_370000 hb;replace HO_375000:=bN HO_375000 hb;replace HO391:=bN HO391 hb;replace HO396:=bN HO396 hb;replace HO401:=bN HO401 hb;replace HO406:=bR HO406 hb;replace BK364:=yb BK364 hb;replace BK369:=yb BK369 hb;replace BK374:=yb BK374 hb;replace BK393:=yb BK393 hb;replace BK398:=yb BK398 hb;replace BK403:=yb BK403 hb;replace HB:=yH HB hb;clear hb))
           go_meet
           case rel=>exact ⟨_,(true),D2,H',⟨D67⟩,⟨D81⟩,⟨D76⟩,⟨D30⟩,⟨D29⟩,⟨D28⟩,⟨D33⟩,⟨D32⟩,⟨D31⟩,⟨yB BK364⟩,⟨yB BK369⟩,⟨yB BK374⟩,⟨yB BK393⟩,⟨yB BK398⟩,⟨yB BK403⟩,⟨yW HB⟩⟩
          replace c137:=Bool.eq_false_iff.mpr c137
          subst c137
          replace H:=yn H
          have H':=am H
          clear H
          go_wp2
          repeat (go_quiet (fail);try go_wp2)
          go_meet
          case rel=>exact ⟨_,(true),D2,H',⟨D67⟩,⟨D81⟩,⟨D76⟩,⟨D30⟩,⟨D29⟩,⟨D28⟩,⟨D33⟩,⟨D32⟩,⟨D31⟩,⟨yB BK364⟩,⟨yB BK369⟩,⟨yB BK374⟩,⟨yB BK393⟩,⟨yB BK398⟩,⟨yB BK403⟩,⟨yW HB⟩⟩
         replace c136:=Bool.eq_false_iff.mpr c136
         subst c136
         replace H:=yn H
         have H':=am H
         clear H
         go_wp2
         repeat (go_quiet (fail);try go_wp2)
         go_meet
         case rel=>exact ⟨_,(true),D2,H',⟨D67⟩,⟨D81⟩,⟨D76⟩,⟨D30⟩,⟨D29⟩,⟨D28⟩,⟨D33⟩,⟨D32⟩,⟨D31⟩,⟨yB BK364⟩,⟨yB BK369⟩,⟨yB BK374⟩,⟨yB BK393⟩,⟨yB BK398⟩,⟨yB BK403⟩,⟨yW HB⟩⟩
        replace c135:=Bool.eq_false_iff.mpr c135
        subst c135
        replace H:=yn H
        have H':=am H
        clear H
        go_wp2
        repeat (go_quiet (fail);try go_wp2)
        go_meet
        case rel=>exact ⟨_,(true),D2,H',⟨D67⟩,⟨D81⟩,⟨D76⟩,⟨D30⟩,⟨D29⟩,⟨D28⟩,⟨D33⟩,⟨D32⟩,⟨D31⟩,⟨yB BK364⟩,⟨yB BK369⟩,⟨yB BK374⟩,⟨yB BK393⟩,⟨yB BK398⟩,⟨yB BK403⟩,⟨yW HB⟩⟩
       case rest=>as_aux_lemma=>
        clear HC99
        try clear c1
        try clear c2
        try clear p2
        try clear c3
        try clear c3b0
        try clear p3
        try clear q3
        try clear hx3
        try clear qi3
        try clear c4
        try clear c5
        try clear c6
        try clear p6
        try clear c7
        try clear c8
        try clear c9
        try clear c10
        try clear c11
        try clear c12
        try clear c13
        try clear c14
        try clear c15
        try clear c16
        try clear c17
        try clear c18
        try clear c19
        try clear c23
        try clear c24
        try clear c30
        try clear c30b0
        try clear c30b1
        try clear c30b2
        try clear c32
        try clear c33
        try clear c33b0
        try clear c33b1
        try clear c33b2
        try clear c34
        try clear c35
        try clear c37
        try clear c38
        try clear p38
        try clear q38
        try clear hx38
        try clear qi38
        try clear c40
        try clear c40b0
        try clear c40b1
        try clear c42
        try clear c43
        try clear c45
        try clear c50
        try clear c51
        try clear c53
        try clear c56
        try clear c57
        try clear c59
        try clear c62
        try clear c64
        try clear p64
        try clear c68
        try clear c69
        try clear c74
        try clear c75
        try clear c76
        try clear c79
        try clear c80
        try clear c81
        try clear c81b0
        try clear c81b1
        try clear c82
        try clear c82b0
        try clear c82b1
        try clear c83
        try clear c83b0
        try clear c83b1
        try clear c83b2
        try clear c84
        try clear c85
        try clear c86
        try clear c88
        try clear c89
        try clear c90
        try clear c92
        try clear c94
        try clear c100
        try clear c101
        try clear c103
        try clear c108
        try clear c109
        try clear c110
        try clear c117
        try clear c118
        try clear c119
        try clear c120
        try clear c126
        try clear c127
        try clear c128
        try clear c129
        try clear c130
        try clear c135
        try clear c136
        try clear c137
        try clear c139
        try clear c141
        try clear c142
        try clear c143
        try clear c144
        try clear c145
        try clear c146
        try clear c148
        try clear c149
        try clear c150
        try clear c151
        try clear c154
        try clear c155
        try clear c156
        try clear c160
        try clear c161
        try clear c163
        try clear c164
        try clear c165
        try clear c166
        try clear c167
        try clear c169
        try clear c170
        try clear c171
        try clear c172
        try clear c175
        try clear c176
        try clear c177
        try clear c181
        try clear c182
        try clear c183
        try clear c184
        try clear c185
        try clear c187
        try clear c188
        try clear c189
        try clear c190
        try clear hcz102_0
        try clear hcz104_0
        try clear hcz111_0
        try clear hcz112_0
        try clear hcz113_0
        try clear hcz121_0
        try clear hcz122_0
        try clear hcz131_0
        try clear hcz132_0
        try clear hcz13_0
        try clear hcz147_0
        try clear hcz152_0
        try clear hcz157_0
        try clear hcz158_0
        try clear hcz162_0
        try clear hcz168_0
        try clear hcz173_0
        try clear hcz178_0
        try clear hcz179_0
        try clear hcz186_0
        try clear hcz18_0
        try clear hcz191_0
        try clear hcz19_0
        try clear hcz25_0
        try clear hcz26_0
        try clear hcz28_0
        try clear hcz36_0
        try clear hcz38_0
        try clear hcz44_0
        try clear hcz46_0
        try clear hcz48_0
        try clear hcz52_0
        try clear hcz54_0
        try clear hcz58_0
        try clear hcz60_0
        try clear hcz70_0
        try clear hcz77_0
        try clear hcz87_0
        try clear hcz91_0
        try clear hfz102_0
        try clear hfz104_0
        try clear hfz111_0
        try clear hfz112_0
        try clear hfz113_0
        try clear hfz121_0
        try clear hfz122_0
        try clear hfz131_0
        try clear hfz132_0
        try clear hfz13_0
        try clear hfz147_0
        try clear hfz152_0
        try clear hfz157_0
        try clear hfz158_0
        try clear hfz162_0
        try clear hfz168_0
        try clear hfz173_0
        try clear hfz178_0
        try clear hfz179_0
        try clear hfz186_0
        try clear hfz18_0
        try clear hfz191_0
        try clear hfz19_0
        try clear hfz25_0
        try clear hfz26_0
        try clear hfz28_0
        try clear hfz36_0
        try clear hfz38_0
        try clear hfz44_0
        try clear hfz46_0
        try clear hfz48_0
        try clear hfz52_0
        try clear hfz54_0
        try clear hfz58_0
        try clear hfz60_0
        try clear hfz70_0
        try clear hfz77_0
        try clear hfz87_0
        try clear hfz91_0
        try clear hx388_0
        try clear p2
        try clear p3
        try clear p38
        try clear p388
        try clear p6
        try clear p64
        try clear q3
        try clear q38
        try clear q388
        obtain ⟨kq,x200_98,rfl,HA,HJ98,HO_6,HO_25,HO_365000,HO_370000,HO_375000,HO_394000,HO_399000,HO_404000,BK364,BK369,BK374,BK393,BK398,BK403,HB⟩:=hcut
        cases kq with
        | zero=>exact absurd HA.out (by simp [laws_FnMatrices.j3])
        | succ kj98 =>
         have H:=HA.out
         clear HA
         simp only [laws_FnMatrices.j3] at H
         by_cases c193:x200_98=true
         ·subst c193
          replace H:=yt H
          obtain rfl:=Option.some.inj H
          go_wp2
          repeat (go_quiet (fail);try go_wp2)
          go_ret
          exact ⟨D0,yW HB⟩
         replace c193:=Bool.eq_false_iff.mpr c193
         subst c193
         replace H:=yn H
         have HC194:=am H
         clear H
         go_upto_if 201 with (fail)
         repeat (go_quiet (fail);go_upto_if 201 with (fail))
         go_cut [] (fun wc=>∃ (kq:Nat),Aside0 (laws_FnMatrices.j5 kq l1=some r)∧Aside0 (kq≤kj98)∧Aside0 (Kd.N (Kd.slice 5 (Kd.int .u8)) 57 wc w.heap.size (fun k_=>some k_ ≠ ((.slice Ao16 t365.length co16):Value).ownBlock∧some k_ ≠ ((.slice Ao22 t370.length co22):Value).ownBlock∧some k_ ≠ ((.slice Ao107 t389.length co107):Value).ownBlock∧some k_ ≠ ((.slice Ao116 t394.length co116):Value).ownBlock∧some k_ ≠ ((.slice Ao125 t399.length co125):Value).ownBlock∧k_ ≠ gb364∧k_ ≠ gb369∧k_ ≠ gb374∧k_ ≠ gb393∧k_ ≠ gb398∧k_ ≠ gb403) (.slice Ao12 t358.length co12) t358)∧Aside0 (Kd.N (Kd.slice 5 (Kd.int .u8)) 57 wc w.heap.size (fun k_=>some k_ ≠ ((.slice Ao12 t358.length co12):Value).ownBlock∧some k_ ≠ ((.slice Ao22 t370.length co22):Value).ownBlock∧some k_ ≠ ((.slice Ao107 t389.length co107):Value).ownBlock∧some k_ ≠ ((.slice Ao116 t394.length co116):Value).ownBlock∧some k_ ≠ ((.slice Ao125 t399.length co125):Value).ownBlock∧k_ ≠ gb364∧k_ ≠ gb369∧k_ ≠ gb374∧k_ ≠ gb393∧k_ ≠ gb398∧k_ ≠ gb403) (.slice Ao16 t365.length co16) t365)∧Aside0 (Kd.N (Kd.slice 5 (Kd.int .u8)) 57 wc w.heap.size (fun k_=>some k_ ≠ ((.slice Ao12 t358.length co12):Value).ownBlock∧some k_ ≠ ((.slice Ao16 t365.length co16):Value).ownBlock∧some k_ ≠ ((.slice Ao107 t389.length co107):Value).ownBlock∧some k_ ≠ ((.slice Ao116 t394.length co116):Value).ownBlock∧some k_ ≠ ((.slice Ao125 t399.length co125):Value).ownBlock∧k_ ≠ gb364∧k_ ≠ gb369∧k_ ≠ gb374∧k_ ≠ gb393∧k_ ≠ gb398∧k_ ≠ gb403) (.slice Ao22 t370.length co22) t370)∧Aside0 (Kd.N (Kd.slice 5 (Kd.int .u8)) 57 wc w.heap.size (fun k_=>some k_ ≠ ((.slice Ao12 t358.length co12):Value).ownBlock∧some k_ ≠ ((.slice Ao16 t365.length co16):Value).ownBlock∧some k_ ≠ ((.slice Ao22 t370.length co22):Value).ownBlock∧some k_ ≠ ((.slice Ao116 t394.length co116):Value).ownBlock∧some k_ ≠ ((.slice Ao125 t399.length co125):Value).ownBlock∧k_ ≠ gb364∧k_ ≠ gb369∧k_ ≠ gb374∧k_ ≠ gb393∧k_ ≠ gb398∧k_ ≠ gb403) (.slice Ao107 t389.length co107) t389)∧Aside0 (Kd.N (Kd.slice 5 (Kd.int .u8)) 57 wc w.heap.size (fun k_=>some k_ ≠ ((.slice Ao12 t358.length co12):Value).ownBlock∧some k_ ≠ ((.slice Ao16 t365.length co16):Value).ownBlock∧some k_ ≠ ((.slice Ao22 t370.length co22):Value).ownBlock∧some k_ ≠ ((.slice Ao107 t389.length co107):Value).ownBlock∧some k_ ≠ ((.slice Ao125 t399.length co125):Value).ownBlock∧k_ ≠ gb364∧k_ ≠ gb369∧k_ ≠ gb374∧k_ ≠ gb393∧k_ ≠ gb398∧k_ ≠ gb403) (.slice Ao116 t394.length co116) t394)∧Aside0 (Kd.N (Kd.slice 5 (Kd.int .u8)) 57 wc w.heap.size (fun k_=>some k_ ≠ ((.slice Ao12 t358.length co12):Value).ownBlock∧some k_ ≠ ((.slice Ao16 t365.length co16):Value).ownBlock∧some k_ ≠ ((.slice Ao22 t370.length co22):Value).ownBlock∧some k_ ≠ ((.slice Ao107 t389.length co107):Value).ownBlock∧some k_ ≠ ((.slice Ao116 t394.length co116):Value).ownBlock∧k_ ≠ gb364∧k_ ≠ gb369∧k_ ≠ gb374∧k_ ≠ gb393∧k_ ≠ gb398∧k_ ≠ gb403) (.slice Ao125 t399.length co125) t399)∧Aside0 (wc.heap[gb364]? = some (.cells #[(.slice Ao12 t358.length co12)] 43 (0,0)))∧Aside0 (wc.heap[gb369]? = some (.cells #[(.slice Ao16 t365.length co16)] 43 (0,0)))∧Aside0 (wc.heap[gb374]? = some (.cells #[(.slice Ao22 t370.length co22)] 43 (0,0)))∧Aside0 (wc.heap[gb393]? = some (.cells #[(.slice Ao107 t389.length co107)] 43 (0,0)))∧Aside0 (wc.heap[gb398]? = some (.cells #[(.slice Ao116 t394.length co116)] 43 (0,0)))∧Aside0 (wc.heap[gb403]? = some (.cells #[(.slice Ao125 t399.length co125)] 43 (0,0)))∧Aside0 (Below w.heap.size w wc))
         case first=>as_aux_lemma=>
          have H:=HC194.out
          clear HC194
          by_cases c195:t407=true
          ·subst c195
           replace H:=yt H
           have H':=am H
           clear H
           have hnb196:=NB364_369.out
           have hnc196:=NB369_364.out
           have hnb197:=NB364_374.out
           have hnc197:=NB374_364.out
           have hnb198:=NB364_393.out
           have hnc198:=NB393_364.out
           have hnb199:=NB364_398.out
           have hnc199:=NB398_364.out
           have hnb200:=NB364_403.out
           have hnc200:=NB403_364.out
           obtain ⟨hcz201_0,hfz201_0⟩:=yk1 BK364
           go_wp2
           repeat (go_quiet (fail);try go_wp2)
           go_loopg [205] kj98 (fun kq v205 w'=>∃ (x205_4:Int),v205 = .int .i64 x205_4∧Aside0 (laws_FnMatrices.l0 kq l1 t361 t404 t358 (t358.length:Int) x205_4=some r)∧Aside0 (kq≤kj98)∧Aside0 (Kd.R (Kd.int .u8) 5 w' w.heap.size (fun k_=>some k_ ≠ (v405:Value).ownBlock) (.slice Ao133 t361.length co133) t361)∧Aside0 (Kd.R (Kd.int .u8) 5 w' w.heap.size (fun k_=>some k_ ≠ ((.slice Ao133 t361.length co133):Value).ownBlock) v405 t404)∧Aside0 (Kd.N (Kd.slice 5 (Kd.int .u8)) 57 w' w.heap.size (fun k_=>some k_ ≠ ((.slice Ao133 t361.length co133):Value).ownBlock∧some k_ ≠ (v405:Value).ownBlock∧some k_ ≠ ((.slice Ao16 t365.length co16):Value).ownBlock∧some k_ ≠ ((.slice Ao22 t370.length co22):Value).ownBlock∧some k_ ≠ ((.slice Ao107 t389.length co107):Value).ownBlock∧some k_ ≠ ((.slice Ao116 t394.length co116):Value).ownBlock∧some k_ ≠ ((.slice Ao125 t399.length co125):Value).ownBlock∧k_ ≠ gb364∧k_ ≠ gb369∧k_ ≠ gb374∧k_ ≠ gb393∧k_ ≠ gb398∧k_ ≠ gb403) (.slice Ao12 t358.length co12) t358)∧Aside0 (Kd.N (Kd.slice 5 (Kd.int .u8)) 57 w' w.heap.size (fun k_=>some k_ ≠ ((.slice Ao133 t361.length co133):Value).ownBlock∧some k_ ≠ (v405:Value).ownBlock∧some k_ ≠ ((.slice Ao16 t365.length co16):Value).ownBlock∧some k_ ≠ ((.slice Ao22 t370.length co22):Value).ownBlock∧some k_ ≠ ((.slice Ao107 t389.length co107):Value).ownBlock∧some k_ ≠ ((.slice Ao116 t394.length co116):Value).ownBlock∧some k_ ≠ ((.slice Ao125 t399.length co125):Value).ownBlock∧k_ ≠ gb364∧k_ ≠ gb369∧k_ ≠ gb374∧k_ ≠ gb393∧k_ ≠ gb398∧k_ ≠ gb403) (.slice Ao12 t358.length co12) t358)∧Aside0 (Kd.N (Kd.slice 5 (Kd.int .u8)) 57 w' w.heap.size (fun k_=>some k_ ≠ ((.slice Ao133 t361.length co133):Value).ownBlock∧some k_ ≠ (v405:Value).ownBlock∧some k_ ≠ ((.slice Ao12 t358.length co12):Value).ownBlock∧some k_ ≠ ((.slice Ao12 t358.length co12):Value).ownBlock∧some k_ ≠ ((.slice Ao22 t370.length co22):Value).ownBlock∧some k_ ≠ ((.slice Ao107 t389.length co107):Value).ownBlock∧some k_ ≠ ((.slice Ao116 t394.length co116):Value).ownBlock∧some k_ ≠ ((.slice Ao125 t399.length co125):Value).ownBlock∧k_ ≠ gb364∧k_ ≠ gb369∧k_ ≠ gb374∧k_ ≠ gb393∧k_ ≠ gb398∧k_ ≠ gb403) (.slice Ao16 t365.length co16) t365)∧Aside0 (Kd.N (Kd.slice 5 (Kd.int .u8)) 57 w' w.heap.size (fun k_=>some k_ ≠ ((.slice Ao133 t361.length co133):Value).ownBlock∧some k_ ≠ (v405:Value).ownBlock∧some k_ ≠ ((.slice Ao12 t358.length co12):Value).ownBlock∧some k_ ≠ ((.slice Ao12 t358.length co12):Value).ownBlock∧some k_ ≠ ((.slice Ao16 t365.length co16):Value).ownBlock∧some k_ ≠ ((.slice Ao107 t389.length co107):Value).ownBlock∧some k_ ≠ ((.slice Ao116 t394.length co116):Value).ownBlock∧some k_ ≠ ((.slice Ao125 t399.length co125):Value).ownBlock∧k_ ≠ gb364∧k_ ≠ gb369∧k_ ≠ gb374∧k_ ≠ gb393∧k_ ≠ gb398∧k_ ≠ gb403) (.slice Ao22 t370.length co22) t370)∧Aside0 (Kd.N (Kd.slice 5 (Kd.int .u8)) 57 w' w.heap.size (fun k_=>some k_ ≠ ((.slice Ao133 t361.length co133):Value).ownBlock∧some k_ ≠ (v405:Value).ownBlock∧some k_ ≠ ((.slice Ao12 t358.length co12):Value).ownBlock∧some k_ ≠ ((.slice Ao12 t358.length co12):Value).ownBlock∧some k_ ≠ ((.slice Ao16 t365.length co16):Value).ownBlock∧some k_ ≠ ((.slice Ao22 t370.length co22):Value).ownBlock∧some k_ ≠ ((.slice Ao116 t394.length co116):Value).ownBlock∧some k_ ≠ ((.slice Ao125 t399.length co125):Value).ownBlock∧k_ ≠ gb364∧k_ ≠ gb369∧k_ ≠ gb374∧k_ ≠ gb393∧k_ ≠ gb398∧k_ ≠ gb403) (.slice Ao107 t389.length co107) t389)∧Aside0 (Kd.N (Kd.slice 5 (Kd.int .u8)) 57 w' w.heap.size (fun k_=>some k_ ≠ ((.slice Ao133 t361.length co133):Value).ownBlock∧some k_ ≠ (v405:Value).ownBlock∧some k_ ≠ ((.slice Ao12 t358.length co12):Value).ownBlock∧some k_ ≠ ((.slice Ao12 t358.length co12):Value).ownBlock∧some k_ ≠ ((.slice Ao16 t365.length co16):Value).ownBlock∧some k_ ≠ ((.slice Ao22 t370.length co22):Value).ownBlock∧some k_ ≠ ((.slice Ao107 t389.length co107):Value).ownBlock∧some k_ ≠ ((.slice Ao125 t399.length co125):Value).ownBlock∧k_ ≠ gb364∧k_ ≠ gb369∧k_ ≠ gb374∧k_ ≠ gb393∧k_ ≠ gb398∧k_ ≠ gb403) (.slice Ao116 t394.length co116) t394)∧Aside0 (Kd.N (Kd.slice 5 (Kd.int .u8)) 57 w' w.heap.size (fun k_=>some k_ ≠ ((.slice Ao133 t361.length co133):Value).ownBlock∧some k_ ≠ (v405:Value).ownBlock∧some k_ ≠ ((.slice Ao12 t358.length co12):Value).ownBlock∧some k_ ≠ ((.slice Ao12 t358.length co12):Value).ownBlock∧some k_ ≠ ((.slice Ao16 t365.length co16):Value).ownBlock∧some k_ ≠ ((.slice Ao22 t370.length co22):Value).ownBlock∧some k_ ≠ ((.slice Ao107 t389.length co107):Value).ownBlock∧some k_ ≠ ((.slice Ao116 t394.length co116):Value).ownBlock∧k_ ≠ gb364∧k_ ≠ gb369∧k_ ≠ gb374∧k_ ≠ gb393∧k_ ≠ gb398∧k_ ≠ gb403) (.slice Ao125 t399.length co125) t399)∧Aside0 (w'.heap[gb364]? = some (.cells #[(.slice Ao12 t358.length co12)] 43 (0,0)))∧Aside0 (w'.heap[gb369]? = some (.cells #[(.slice Ao16 t365.length co16)] 43 (0,0)))∧Aside0 (w'.heap[gb374]? = some (.cells #[(.slice Ao22 t370.length co22)] 43 (0,0)))∧Aside0 (w'.heap[gb393]? = some (.cells #[(.slice Ao107 t389.length co107)] 43 (0,0)))∧Aside0 (w'.heap[gb398]? = some (.cells #[(.slice Ao116 t394.length co116)] 43 (0,0)))∧Aside0 (w'.heap[gb403]? = some (.cells #[(.slice Ao125 t399.length co125)] 43 (0,0)))∧Aside0 (Below w.heap.size w w'))
           case atStart=>exact ⟨(0),D2,H',⟨Nat.le_refl _⟩,⟨yR HO_6⟩,⟨yR HO_25⟩,⟨yN HO_365000⟩,⟨yN HO_365000⟩,⟨by refine sN ?_;exact Kd.N_mono HO_370000.out (fun _ hk=>⟨hk.1,⟨hk.2.1,⟨hk.2.2.1,⟨hk.2.2.1,⟨hk.2.2.2.1,⟨hk.2.2.2.2.1,⟨hk.2.2.2.2.2.1,⟨hk.2.2.2.2.2.2.1,⟨hk.2.2.2.2.2.2.2.1,⟨hk.2.2.2.2.2.2.2.2.1,⟨hk.2.2.2.2.2.2.2.2.2.1,⟨hk.2.2.2.2.2.2.2.2.2.2.1,⟨hk.2.2.2.2.2.2.2.2.2.2.2.1,hk.2.2.2.2.2.2.2.2.2.2.2.2⟩⟩⟩⟩⟩⟩⟩⟩⟩⟩⟩⟩⟩)⟩,⟨by refine sN ?_;exact Kd.N_mono HO_375000.out (fun _ hk=>⟨hk.1,⟨hk.2.1,⟨hk.2.2.1,⟨hk.2.2.1,⟨hk.2.2.2.1,⟨hk.2.2.2.2.1,⟨hk.2.2.2.2.2.1,⟨hk.2.2.2.2.2.2.1,⟨hk.2.2.2.2.2.2.2.1,⟨hk.2.2.2.2.2.2.2.2.1,⟨hk.2.2.2.2.2.2.2.2.2.1,⟨hk.2.2.2.2.2.2.2.2.2.2.1,⟨hk.2.2.2.2.2.2.2.2.2.2.2.1,hk.2.2.2.2.2.2.2.2.2.2.2.2⟩⟩⟩⟩⟩⟩⟩⟩⟩⟩⟩⟩⟩)⟩,⟨by refine sN ?_;exact Kd.N_mono HO_394000.out (fun _ hk=>⟨hk.1,⟨hk.2.1,⟨hk.2.2.1,⟨hk.2.2.1,⟨hk.2.2.2.1,⟨hk.2.2.2.2.1,⟨hk.2.2.2.2.2.1,⟨hk.2.2.2.2.2.2.1,⟨hk.2.2.2.2.2.2.2.1,⟨hk.2.2.2.2.2.2.2.2.1,⟨hk.2.2.2.2.2.2.2.2.2.1,⟨hk.2.2.2.2.2.2.2.2.2.2.1,⟨hk.2.2.2.2.2.2.2.2.2.2.2.1,hk.2.2.2.2.2.2.2.2.2.2.2.2⟩⟩⟩⟩⟩⟩⟩⟩⟩⟩⟩⟩⟩)⟩,⟨by refine sN ?_;exact Kd.N_mono HO_399000.out (fun _ hk=>⟨hk.1,⟨hk.2.1,⟨hk.2.2.1,⟨hk.2.2.1,⟨hk.2.2.2.1,⟨hk.2.2.2.2.1,⟨hk.2.2.2.2.2.1,⟨hk.2.2.2.2.2.2.1,⟨hk.2.2.2.2.2.2.2.1,⟨hk.2.2.2.2.2.2.2.2.1,⟨hk.2.2.2.2.2.2.2.2.2.1,⟨hk.2.2.2.2.2.2.2.2.2.2.1,⟨hk.2.2.2.2.2.2.2.2.2.2.2.1,hk.2.2.2.2.2.2.2.2.2.2.2.2⟩⟩⟩⟩⟩⟩⟩⟩⟩⟩⟩⟩⟩)⟩,⟨by refine sN ?_;exact Kd.N_mono HO_404000.out (fun _ hk=>⟨hk.1,⟨hk.2.1,⟨hk.2.2.1,⟨hk.2.2.1,⟨hk.2.2.2.1,⟨hk.2.2.2.2.1,⟨hk.2.2.2.2.2.1,⟨hk.2.2.2.2.2.2.1,⟨hk.2.2.2.2.2.2.2.1,⟨hk.2.2.2.2.2.2.2.2.1,⟨hk.2.2.2.2.2.2.2.2.2.1,⟨hk.2.2.2.2.2.2.2.2.2.2.1,⟨hk.2.2.2.2.2.2.2.2.2.2.2.1,hk.2.2.2.2.2.2.2.2.2.2.2.2⟩⟩⟩⟩⟩⟩⟩⟩⟩⟩⟩⟩⟩)⟩,⟨yB BK364⟩,⟨yB BK369⟩,⟨yB BK374⟩,⟨yB BK393⟩,⟨yB BK398⟩,⟨yB BK403⟩,⟨yW HB⟩⟩
           case round=>as_aux_lemma=>
            clear H'
            try clear c1
            try clear c2
            try clear p2
            try clear c3
            try clear c3b0
            try clear p3
            try clear q3
            try clear hx3
            try clear qi3
            try clear c4
            try clear c5
            try clear c6
            try clear p6
            try clear c7
            try clear c8
            try clear c9
            try clear c10
            try clear c11
            try clear c12
            try clear c13
            try clear c14
            try clear c15
            try clear c16
            try clear c17
            try clear c18
            try clear c19
            try clear c20
            try clear c23
            try clear c24
            try clear c30
            try clear c30b0
            try clear c30b1
            try clear c30b2
            try clear c32
            try clear c33
            try clear c33b0
            try clear c33b1
            try clear c33b2
            try clear c34
            try clear c35
            try clear c37
            try clear c38
            try clear p38
            try clear q38
            try clear hx38
            try clear qi38
            try clear c40
            try clear c40b0
            try clear c40b1
            try clear c42
            try clear c43
            try clear c45
            try clear c50
            try clear c51
            try clear c53
            try clear c56
            try clear c57
            try clear c59
            try clear c62
            try clear c64
            try clear p64
            try clear c68
            try clear c69
            try clear c74
            try clear c75
            try clear c76
            try clear c79
            try clear c80
            try clear c81
            try clear c81b0
            try clear c81b1
            try clear c82
            try clear c82b0
            try clear c82b1
            try clear c83
            try clear c83b0
            try clear c83b1
            try clear c83b2
            try clear c84
            try clear c85
            try clear c86
            try clear c88
            try clear c89
            try clear c90
            try clear c92
            try clear c94
            try clear c100
            try clear c101
            try clear c103
            try clear c108
            try clear c109
            try clear c110
            try clear c117
            try clear c118
            try clear c119
            try clear c120
            try clear c126
            try clear c127
            try clear c128
            try clear c129
            try clear c130
            try clear c135
            try clear c136
            try clear c137
            try clear c139
            try clear c141
            try clear c142
            try clear c143
            try clear c144
            try clear c145
            try clear c146
            try clear c148
            try clear c149
            try clear c150
            try clear c151
            try clear c154
            try clear c155
            try clear c156
            try clear c160
            try clear c161
            try clear c163
            try clear c164
            try clear c165
            try clear c166
            try clear c167
            try clear c169
            try clear c170
            try clear c171
            try clear c172
            try clear c175
            try clear c176
            try clear c177
            try clear c181
            try clear c182
            try clear c183
            try clear c184
            try clear c185
            try clear c187
            try clear c188
            try clear c189
            try clear c190
            try clear c193
            try clear c195
            try clear c196
            try clear c197
            try clear c198
            try clear c199
            try clear c200
            try clear hcz102_0
            try clear hcz104_0
            try clear hcz111_0
            try clear hcz112_0
            try clear hcz113_0
            try clear hcz121_0
            try clear hcz122_0
            try clear hcz131_0
            try clear hcz132_0
            try clear hcz13_0
            try clear hcz147_0
            try clear hcz152_0
            try clear hcz157_0
            try clear hcz158_0
            try clear hcz162_0
            try clear hcz168_0
            try clear hcz173_0
            try clear hcz178_0
            try clear hcz179_0
            try clear hcz186_0
            try clear hcz18_0
            try clear hcz191_0
            try clear hcz19_0
            try clear hcz201_0
            try clear hcz25_0
            try clear hcz26_0
            try clear hcz28_0
            try clear hcz36_0
            try clear hcz38_0
            try clear hcz44_0
            try clear hcz46_0
            try clear hcz48_0
            try clear hcz52_0
            try clear hcz54_0
            try clear hcz58_0
            try clear hcz60_0
            try clear hcz70_0
            try clear hcz77_0
            try clear hcz87_0
            try clear hcz91_0
            try clear hfz102_0
            try clear hfz104_0
            try clear hfz111_0
            try clear hfz112_0
            try clear hfz113_0
            try clear hfz121_0
            try clear hfz122_0
            try clear hfz131_0
            try clear hfz132_0
            try clear hfz13_0
            try clear hfz147_0
            try clear hfz152_0
            try clear hfz157_0
            try clear hfz158_0
            try clear hfz162_0
            try clear hfz168_0
            try clear hfz173_0
            try clear hfz178_0
            try clear hfz179_0
            try clear hfz186_0
            try clear hfz18_0
            try clear hfz191_0
            try clear hfz19_0
            try clear hfz201_0
            try clear hfz25_0
            try clear hfz26_0
            try clear hfz28_0
            try clear hfz36_0
            try clear hfz38_0
            try clear hfz44_0
            try clear hfz46_0
            try clear hfz48_0
            try clear hfz52_0
            try clear hfz54_0
            try clear hfz58_0
            try clear hfz60_0
            try clear hfz70_0
            try clear hfz77_0
            try clear hfz87_0
            try clear hfz91_0
            try clear hx388_0
            try clear p2
            try clear p3
            try clear p38
            try clear p388
            try clear p6
            try clear p64
            try clear q3
            try clear q38
            try clear q388
            obtain ⟨x205_4,rfl,HA,HK4,HO_6,HO_25,HO_203,HO_365000,HO_370000,HO_375000,HO_394000,HO_399000,HO_404000,BK364,BK369,BK374,BK393,BK398,BK403,HB⟩:=hrel
            cases gk with
            | zero=>exact absurd HA.out (by simp [laws_FnMatrices.l0])
            | succ k4 =>
             have H:=HA.out
             clear HA
             simp only [laws_FnMatrices.l0] at H
             by_cases c202:x205_4 < (t358.length:Int)
             ·rw [if_pos c202] at H
              have c202b0:=decide_eq_true c202
              clear c202
              (first|rw [c202b0]|(simp only [i64_w,i32_w];rw [c202b0])|skip)
              by_cases c203:0≤x205_4
              ·rw [if_pos c203] at H
               have c203b0:=decide_eq_true c203
               clear c203
               by_cases c204:x205_4 < (t358.length:Int)
               ·rw [if_pos c204] at H
                have c204b0:=decide_eq_true c204
                clear c204
                obtain ⟨⟨t411,t412⟩,A205,H⟩:=yo H
                try dsimp only at H
                by_cases c206:t412=true
                ·subst c206
                 replace H:=yt H
                 by_cases c207:x205_4 < (t361.length:Int)
                 ·rw [if_pos c207] at H
                  have c207b0:=decide_eq_true c207
                  clear c207
                  by_cases c208:t411=(rd t361 x205_4)
                  ·rw [if_pos c208] at H
                   have c208b0:(t411 == (rd t361 x205_4))=true:=beq_iff_eq.mpr c208
                   have c208b1:(t411 != (rd t361 x205_4))=false:=bne_eq_false_iff_eq.mpr c208
                   clear c208
                   have H':=am H
                   clear H
                   have p410:0≤(x205_4:Int):=od D1
                   have q410:x205_4 < (t358.length:Int):=od D1
                   obtain ⟨ad410,A410_0,c410_0,e410,hx410_0,hl410_0,hi410_0⟩:=at_L1 (Kd.N_reads' HO_203.out).2.2 x205_4 p410 q410
                   cases e410
                   obtain ⟨ce410,hce410,hMe410,hcc410⟩:=Kd.N_get HO_203.out [] x205_4 p410 D140
                   obtain ⟨ua410_0,uc410_0,rfl,ul410_0,ge410_0⟩:=Kd.FK_slice_open hMe410
                   have hv410_0:=hcc410 0 _ rfl
                   rw [Nat.add_zero,show ((Kd.slice 5 (Kd.int .u8))).sz=1 from rfl,Nat.mul_one] at hv410_0
                   replace hv410_0:=Option.some.inj (hv410_0.symm.trans hx410_0)
                   injection hv410_0 with hva_ hvn_ hvc_
                   rw [hva_] at ge410_0
                   rw [hvc_] at ul410_0
                   have HL410_0:=am (show Kd.V (Kd.int .u8) 5 _ w.heap.size _ _ (rd_L1 t358 x205_4) from Kd.V_mk ul410_0 ge410_0)
                   clear hva_ hvn_ hvc_ ge410_0 ul410_0
                   clear hcc410 hce410
                   have HR410_0:=am hi410_0
                   have HC410_0:=am hl410_0
                   clear hi410_0 hl410_0
                   replace p410:=eq_true p410
                   replace q410:=eq_true q410
                   obtain ⟨Ao209,co209,eo209⟩:=Kd.R_slice HO_25.out
                   subst eo209
                   go_wp2_with (first|(go_at_call 81;(with_reducible refine (impl_DotVectors.calls k4 _ _ (rd_L1 t358 x205_4) _ _ t404 t411 true _ D44 (by exact HC410_0.out) D70 (by exact (Kd.R_reads' HO_25.out).2.1) A205.out).mono ?_);rintro e w' ⟨rfl,⟨nd,rfl⟩⟩;(try first|exact ⟨rfl,_,World.drewN_drewN _ _ _⟩|exact ⟨rfl,_,Eq.trans (World.drewN_drewN _ _ _) (congrArg (World.drewN _) (Nat.add_assoc _ _ _))⟩);have p413:0≤(x205_4:Int):=od D1;have q413:x205_4 < (t361.length:Int):=od D1;obtain ⟨ad413,e413,hx413_0⟩:=Kd.at_int (Kd.R_reads' HO_6.out).2.2 x205_4 p413 q413;cases e413;replace p413:=eq_true p413;replace q413:=eq_true q413))
                   go_roundg k4
                   case measure=>have:=HJ8.out;have:=HJ62.out;have:=HJ98.out;have:=HK4.out;omega
                   case rel=>exact ⟨(wrap64 (x205_4+1)),D2,H',⟨by have:=HJ8.out;have:=HJ62.out;have:=HJ98.out;have:=HK4.out;omega⟩,⟨yR HO_6⟩,⟨yR HO_25⟩,⟨yN HO_203⟩,⟨yN HO_365000⟩,⟨yN HO_370000⟩,⟨yN HO_375000⟩,⟨yN HO_394000⟩,⟨yN HO_399000⟩,⟨yN HO_404000⟩,⟨yB BK364⟩,⟨yB BK369⟩,⟨yB BK374⟩,⟨yB BK393⟩,⟨yB BK398⟩,⟨yB BK403⟩,⟨yW HB⟩⟩
                  rw [if_neg c208] at H
                  have c208b0:(t411 == (rd t361 x205_4))=false:=beq_eq_false_iff_ne.mpr c208
                  have c208b1:(t411 != (rd t361 x205_4))=true:=bne_iff_ne.mpr c208
                  obtain rfl:=Option.some.inj H
                  have p410:0≤(x205_4:Int):=od D1
                  have q410:x205_4 < (t358.length:Int):=od D1
                  obtain ⟨ad410,A410_0,c410_0,e410,hx410_0,hl410_0,hi410_0⟩:=at_L1 (Kd.N_reads' HO_203.out).2.2 x205_4 p410 q410
                  cases e410
                  obtain ⟨ce410,hce410,hMe410,hcc410⟩:=Kd.N_get HO_203.out [] x205_4 p410 D140
                  obtain ⟨ua410_0,uc410_0,rfl,ul410_0,ge410_0⟩:=Kd.FK_slice_open hMe410
                  have hv410_0:=hcc410 0 _ rfl
                  rw [Nat.add_zero,show ((Kd.slice 5 (Kd.int .u8))).sz=1 from rfl,Nat.mul_one] at hv410_0
                  replace hv410_0:=Option.some.inj (hv410_0.symm.trans hx410_0)
                  injection hv410_0 with hva_ hvn_ hvc_
                  rw [hva_] at ge410_0
                  rw [hvc_] at ul410_0
                  have HL410_0:=am (show Kd.V (Kd.int .u8) 5 _ w.heap.size _ _ (rd_L1 t358 x205_4) from Kd.V_mk ul410_0 ge410_0)
                  clear hva_ hvn_ hvc_ ge410_0 ul410_0
                  clear hcc410 hce410
                  have HR410_0:=am hi410_0
                  have HC410_0:=am hl410_0
                  clear hi410_0 hl410_0
                  replace p410:=eq_true p410
                  replace q410:=eq_true q410
                  obtain ⟨Ao210,co210,eo210⟩:=Kd.R_slice HO_25.out
                  subst eo210
                  go_wp2_with (first|(go_at_call 81;(with_reducible refine (impl_DotVectors.calls k4 _ _ (rd_L1 t358 x205_4) _ _ t404 t411 true _ D44 (by exact HC410_0.out) D70 (by exact (Kd.R_reads' HO_25.out).2.1) A205.out).mono ?_);rintro e w' ⟨rfl,⟨nd,rfl⟩⟩;(try first|exact ⟨rfl,_,World.drewN_drewN _ _ _⟩|exact ⟨rfl,_,Eq.trans (World.drewN_drewN _ _ _) (congrArg (World.drewN _) (Nat.add_assoc _ _ _))⟩);have p413:0≤(x205_4:Int):=od D1;have q413:x205_4 < (t361.length:Int):=od D1;obtain ⟨ad413,e413,hx413_0⟩:=Kd.at_int (Kd.R_reads' HO_6.out).2.2 x205_4 p413 q413;cases e413;replace p413:=eq_true p413;replace q413:=eq_true q413))
                  go_ret
                  exact ⟨D0,yW HB⟩
                 rw [if_neg c207] at H
                 exact absurd H D52
                replace c206:=Bool.eq_false_iff.mpr c206
                subst c206
                replace H:=yn H
                obtain rfl:=Option.some.inj H
                have p410:0≤(x205_4:Int):=od D1
                have q410:x205_4 < (t358.length:Int):=od D1
                obtain ⟨ad410,A410_0,c410_0,e410,hx410_0,hl410_0,hi410_0⟩:=at_L1 (Kd.N_reads' HO_203.out).2.2 x205_4 p410 q410
                cases e410
                obtain ⟨ce410,hce410,hMe410,hcc410⟩:=Kd.N_get HO_203.out [] x205_4 p410 D140
                obtain ⟨ua410_0,uc410_0,rfl,ul410_0,ge410_0⟩:=Kd.FK_slice_open hMe410
                have hv410_0:=hcc410 0 _ rfl
                rw [Nat.add_zero,show ((Kd.slice 5 (Kd.int .u8))).sz=1 from rfl,Nat.mul_one] at hv410_0
                replace hv410_0:=Option.some.inj (hv410_0.symm.trans hx410_0)
                injection hv410_0 with hva_ hvn_ hvc_
                rw [hva_] at ge410_0
                rw [hvc_] at ul410_0
                have HL410_0:=am (show Kd.V (Kd.int .u8) 5 _ w.heap.size _ _ (rd_L1 t358 x205_4) from Kd.V_mk ul410_0 ge410_0)
                clear hva_ hvn_ hvc_ ge410_0 ul410_0
                clear hcc410 hce410
                have HR410_0:=am hi410_0
                have HC410_0:=am hl410_0
                clear hi410_0 hl410_0
                replace p410:=eq_true p410
                replace q410:=eq_true q410
                obtain ⟨Ao211,co211,eo211⟩:=Kd.R_slice HO_25.out
                subst eo211
                go_wp2_with (first|(go_at_call 81;(with_reducible refine (impl_DotVectors.calls k4 _ _ (rd_L1 t358 x205_4) _ _ t404 t411 false _ D44 (by exact HC410_0.out) D70 (by exact (Kd.R_reads' HO_25.out).2.1) A205.out).mono ?_);rintro e w' ⟨rfl,⟨nd,rfl⟩⟩;(try first|exact ⟨rfl,_,World.drewN_drewN _ _ _⟩|exact ⟨rfl,_,Eq.trans (World.drewN_drewN _ _ _) (congrArg (World.drewN _) (Nat.add_assoc _ _ _))⟩)))
                go_ret
                exact ⟨D0,yW HB⟩
               rw [if_neg c204] at H
               exact absurd H D52
              rw [if_neg c203] at H
              exact absurd H D52
             rw [if_neg c202] at H
             have c202b0:=decide_eq_false c202
             clear c202
             (first|rw [c202b0]|(simp only [i64_w,i32_w];rw [c202b0])|skip)
             have H':=am H
             clear H
             go_wp2
             repeat (go_quiet (fail);try go_wp2)
             go_meet
             case rel=>exact ⟨_,H',⟨by have:=HJ8.out;have:=HJ62.out;have:=HJ98.out;have:=HK4.out;first|omega|exact Nat.le_refl _⟩,⟨D73⟩,⟨by refine sN ?_;exact Kd.N_mono HO_370000.out (fun _ hk=>⟨hk.2.2.2.1,⟨hk.2.2.2.2.1,⟨hk.2.2.2.2.2.1,⟨hk.2.2.2.2.2.2.1,⟨hk.2.2.2.2.2.2.2.1,⟨hk.2.2.2.2.2.2.2.2.1,⟨hk.2.2.2.2.2.2.2.2.2.1,⟨hk.2.2.2.2.2.2.2.2.2.2.1,⟨hk.2.2.2.2.2.2.2.2.2.2.2.1,⟨hk.2.2.2.2.2.2.2.2.2.2.2.2.1,hk.2.2.2.2.2.2.2.2.2.2.2.2.2⟩⟩⟩⟩⟩⟩⟩⟩⟩⟩)⟩,⟨by refine sN ?_;exact Kd.N_mono HO_375000.out (fun _ hk=>⟨hk.2.2.2.1,⟨hk.2.2.2.2.1,⟨hk.2.2.2.2.2.1,⟨hk.2.2.2.2.2.2.1,⟨hk.2.2.2.2.2.2.2.1,⟨hk.2.2.2.2.2.2.2.2.1,⟨hk.2.2.2.2.2.2.2.2.2.1,⟨hk.2.2.2.2.2.2.2.2.2.2.1,⟨hk.2.2.2.2.2.2.2.2.2.2.2.1,⟨hk.2.2.2.2.2.2.2.2.2.2.2.2.1,hk.2.2.2.2.2.2.2.2.2.2.2.2.2⟩⟩⟩⟩⟩⟩⟩⟩⟩⟩)⟩,⟨by refine sN ?_;exact Kd.N_mono HO_394000.out (fun _ hk=>⟨hk.2.2.2.1,⟨hk.2.2.2.2.1,⟨hk.2.2.2.2.2.1,⟨hk.2.2.2.2.2.2.1,⟨hk.2.2.2.2.2.2.2.1,⟨hk.2.2.2.2.2.2.2.2.1,⟨hk.2.2.2.2.2.2.2.2.2.1,⟨hk.2.2.2.2.2.2.2.2.2.2.1,⟨hk.2.2.2.2.2.2.2.2.2.2.2.1,⟨hk.2.2.2.2.2.2.2.2.2.2.2.2.1,hk.2.2.2.2.2.2.2.2.2.2.2.2.2⟩⟩⟩⟩⟩⟩⟩⟩⟩⟩)⟩,⟨by refine sN ?_;exact Kd.N_mono HO_399000.out (fun _ hk=>⟨hk.2.2.2.1,⟨hk.2.2.2.2.1,⟨hk.2.2.2.2.2.1,⟨hk.2.2.2.2.2.2.1,⟨hk.2.2.2.2.2.2.2.1,⟨hk.2.2.2.2.2.2.2.2.1,⟨hk.2.2.2.2.2.2.2.2.2.1,⟨hk.2.2.2.2.2.2.2.2.2.2.1,⟨hk.2.2.2.2.2.2.2.2.2.2.2.1,⟨hk.2.2.2.2.2.2.2.2.2.2.2.2.1,hk.2.2.2.2.2.2.2.2.2.2.2.2.2⟩⟩⟩⟩⟩⟩⟩⟩⟩⟩)⟩,⟨by refine sN ?_;exact Kd.N_mono HO_404000.out (fun _ hk=>⟨hk.2.2.2.1,⟨hk.2.2.2.2.1,⟨hk.2.2.2.2.2.1,⟨hk.2.2.2.2.2.2.1,⟨hk.2.2.2.2.2.2.2.1,⟨hk.2.2.2.2.2.2.2.2.1,⟨hk.2.2.2.2.2.2.2.2.2.1,⟨hk.2.2.2.2.2.2.2.2.2.2.1,⟨hk.2.2.2.2.2.2.2.2.2.2.2.1,⟨hk.2.2.2.2.2.2.2.2.2.2.2.2.1,hk.2.2.2.2.2.2.2.2.2.2.2.2.2⟩⟩⟩⟩⟩⟩⟩⟩⟩⟩)⟩,⟨yB BK364⟩,⟨yB BK369⟩,⟨yB BK374⟩,⟨yB BK393⟩,⟨yB BK398⟩,⟨yB BK403⟩,⟨yW HB⟩⟩
          replace c195:=Bool.eq_false_iff.mpr c195
          subst c195
          replace H:=yn H
          have H':=am H
          clear H
          go_wp2
          repeat (go_quiet (fail);try go_wp2)
          go_meet
          case rel=>exact ⟨_,H',⟨by have:=HJ8.out;have:=HJ62.out;have:=HJ98.out;first|omega|exact Nat.le_refl _⟩,⟨D73⟩,⟨by refine sN ?_;exact Kd.N_mono HO_370000.out (fun _ hk=>⟨hk.2.2.1,⟨hk.2.2.2.1,⟨hk.2.2.2.2.1,⟨hk.2.2.2.2.2.1,⟨hk.2.2.2.2.2.2.1,⟨hk.2.2.2.2.2.2.2.1,⟨hk.2.2.2.2.2.2.2.2.1,⟨hk.2.2.2.2.2.2.2.2.2.1,⟨hk.2.2.2.2.2.2.2.2.2.2.1,⟨hk.2.2.2.2.2.2.2.2.2.2.2.1,hk.2.2.2.2.2.2.2.2.2.2.2.2⟩⟩⟩⟩⟩⟩⟩⟩⟩⟩)⟩,⟨by refine sN ?_;exact Kd.N_mono HO_375000.out (fun _ hk=>⟨hk.2.2.1,⟨hk.2.2.2.1,⟨hk.2.2.2.2.1,⟨hk.2.2.2.2.2.1,⟨hk.2.2.2.2.2.2.1,⟨hk.2.2.2.2.2.2.2.1,⟨hk.2.2.2.2.2.2.2.2.1,⟨hk.2.2.2.2.2.2.2.2.2.1,⟨hk.2.2.2.2.2.2.2.2.2.2.1,⟨hk.2.2.2.2.2.2.2.2.2.2.2.1,hk.2.2.2.2.2.2.2.2.2.2.2.2⟩⟩⟩⟩⟩⟩⟩⟩⟩⟩)⟩,⟨by refine sN ?_;exact Kd.N_mono HO_394000.out (fun _ hk=>⟨hk.2.2.1,⟨hk.2.2.2.1,⟨hk.2.2.2.2.1,⟨hk.2.2.2.2.2.1,⟨hk.2.2.2.2.2.2.1,⟨hk.2.2.2.2.2.2.2.1,⟨hk.2.2.2.2.2.2.2.2.1,⟨hk.2.2.2.2.2.2.2.2.2.1,⟨hk.2.2.2.2.2.2.2.2.2.2.1,⟨hk.2.2.2.2.2.2.2.2.2.2.2.1,hk.2.2.2.2.2.2.2.2.2.2.2.2⟩⟩⟩⟩⟩⟩⟩⟩⟩⟩)⟩,⟨by refine sN ?_;exact Kd.N_mono HO_399000.out (fun _ hk=>⟨hk.2.2.1,⟨hk.2.2.2.1,⟨hk.2.2.2.2.1,⟨hk.2.2.2.2.2.1,⟨hk.2.2.2.2.2.2.1,⟨hk.2.2.2.2.2.2.2.1,⟨hk.2.2.2.2.2.2.2.2.1,⟨hk.2.2.2.2.2.2.2.2.2.1,⟨hk.2.2.2.2.2.2.2.2.2.2.1,⟨hk.2.2.2.2.2.2.2.2.2.2.2.1,hk.2.2.2.2.2.2.2.2.2.2.2.2⟩⟩⟩⟩⟩⟩⟩⟩⟩⟩)⟩,⟨by refine sN ?_;exact Kd.N_mono HO_404000.out (fun _ hk=>⟨hk.2.2.1,⟨hk.2.2.2.1,⟨hk.2.2.2.2.1,⟨hk.2.2.2.2.2.1,⟨hk.2.2.2.2.2.2.1,⟨hk.2.2.2.2.2.2.2.1,⟨hk.2.2.2.2.2.2.2.2.1,⟨hk.2.2.2.2.2.2.2.2.2.1,⟨hk.2.2.2.2.2.2.2.2.2.2.1,⟨hk.2.2.2.2.2.2.2.2.2.2.2.1,hk.2.2.2.2.2.2.2.2.2.2.2.2⟩⟩⟩⟩⟩⟩⟩⟩⟩⟩)⟩,⟨yB BK364⟩,⟨yB BK369⟩,⟨yB BK374⟩,⟨yB BK393⟩,⟨yB BK398⟩,⟨yB BK403⟩,⟨yW HB⟩⟩
         case rest=>as_aux_lemma=>
          clear HC194
          try clear c1
          try clear c2
          try clear p2
          try clear c3
          try clear c3b0
          try clear p3
          try clear q3
          try clear hx3
          try clear qi3
          try clear c4
          try clear p4
          try clear q4
          try clear hx4
          try clear c5
          try clear c6
          try clear p6
          try clear c7
          try clear c8
          try clear c9
          try clear c10
          try clear c11
          try clear c12
          try clear c13
          try clear c14
          try clear c15
          try clear c16
          try clear c17
          try clear c18
          try clear c19
          try clear c20
          try clear c23
          try clear c24
          try clear c30
          try clear c30b0
          try clear c30b1
          try clear c30b2
          try clear c32
          try clear c33
          try clear c33b0
          try clear c33b1
          try clear c33b2
          try clear c34
          try clear c35
          try clear c37
          try clear c38
          try clear p38
          try clear q38
          try clear hx38
          try clear qi38
          try clear c40
          try clear c40b0
          try clear c40b1
          try clear c41
          try clear p41
          try clear q41
          try clear hx41
          try clear c42
          try clear c43
          try clear c45
          try clear c50
          try clear c51
          try clear c53
          try clear c56
          try clear c57
          try clear c59
          try clear c62
          try clear c64
          try clear p64
          try clear c68
          try clear c69
          try clear c74
          try clear c75
          try clear c76
          try clear c79
          try clear c80
          try clear c81
          try clear c81b0
          try clear c81b1
          try clear c82
          try clear c82b0
          try clear c82b1
          try clear c83
          try clear c83b0
          try clear c83b1
          try clear c83b2
          try clear c84
          try clear c85
          try clear c86
          try clear c88
          try clear c89
          try clear c90
          try clear c92
          try clear c94
          try clear c100
          try clear c101
          try clear c103
          try clear c108
          try clear c109
          try clear c110
          try clear c117
          try clear c118
          try clear c119
          try clear c120
          try clear c126
          try clear c127
          try clear c128
          try clear c129
          try clear c130
          try clear c135
          try clear c136
          try clear c137
          try clear c139
          try clear c141
          try clear c142
          try clear c143
          try clear c144
          try clear c145
          try clear c146
          try clear c148
          try clear c149
          try clear c150
          try clear c151
          try clear c154
          try clear c155
          try clear c156
          try clear c160
          try clear c161
          try clear c163
          try clear c164
          try clear c165
          try clear c166
          try clear c167
          try clear c169
          try clear c170
          try clear c171
          try clear c172
          try clear c175
          try clear c176
          try clear c177
          try clear c181
          try clear c182
          try clear c183
          try clear c184
          try clear c185
          try clear c187
          try clear c188
          try clear c189
          try clear c190
          try clear c193
          try clear c195
          try clear c196
          try clear c197
          try clear c198
          try clear c199
          try clear c200
          try clear c202
          try clear c202b0
          try clear c203
          try clear c203b0
          try clear c204
          try clear c204b0
          try clear c206
          try clear c207
          try clear c207b0
          try clear c208
          try clear c208b0
          try clear c208b1
          try clear hcz102_0
          try clear hcz104_0
          try clear hcz111_0
          try clear hcz112_0
          try clear hcz113_0
          try clear hcz121_0
          try clear hcz122_0
          try clear hcz131_0
          try clear hcz132_0
          try clear hcz13_0
          try clear hcz147_0
          try clear hcz152_0
          try clear hcz157_0
          try clear hcz158_0
          try clear hcz162_0
          try clear hcz168_0
          try clear hcz173_0
          try clear hcz178_0
          try clear hcz179_0
          try clear hcz186_0
          try clear hcz18_0
          try clear hcz191_0
          try clear hcz19_0
          try clear hcz201_0
          try clear hcz25_0
          try clear hcz26_0
          try clear hcz28_0
          try clear hcz36_0
          try clear hcz38_0
          try clear hcz44_0
          try clear hcz46_0
          try clear hcz48_0
          try clear hcz52_0
          try clear hcz54_0
          try clear hcz58_0
          try clear hcz60_0
          try clear hcz70_0
          try clear hcz77_0
          try clear hcz87_0
          try clear hcz91_0
          try clear hfz102_0
          try clear hfz104_0
          try clear hfz111_0
          try clear hfz112_0
          try clear hfz113_0
          try clear hfz121_0
          try clear hfz122_0
          try clear hfz131_0
          try clear hfz132_0
          try clear hfz13_0
          try clear hfz147_0
          try clear hfz152_0
          try clear hfz157_0
          try clear hfz158_0
          try clear hfz162_0
          try clear hfz168_0
          try clear hfz173_0
          try clear hfz178_0
          try clear hfz179_0
          try clear hfz186_0
          try clear hfz18_0
          try clear hfz191_0
          try clear hfz19_0
          try clear hfz201_0
          try clear hfz25_0
          try clear hfz26_0
          try clear hfz28_0
          try clear hfz36_0
          try clear hfz38_0
          try clear hfz44_0
          try clear hfz46_0
          try clear hfz48_0
          try clear hfz52_0
          try clear hfz54_0
          try clear hfz58_0
          try clear hfz60_0
          try clear hfz70_0
          try clear hfz77_0
          try clear hfz87_0
          try clear hfz91_0
          try clear hx388_0
          try clear hx410_0
          try clear hx413_0
          try clear p2
          try clear p3
          try clear p38
          try clear p388
          try clear p410
          try clear p413
          try clear p6
          try clear p64
          try clear q3
          try clear q38
          try clear q388
          try clear q410
          try clear q413
          obtain ⟨kq,HA,HJ193,HO_365000,HO_370000,HO_375000,HO_394000,HO_399000,HO_404000,BK364,BK369,BK374,BK393,BK398,BK403,HB⟩:=hcut
          cases kq with
          | zero=>exact absurd HA.out (by simp [laws_FnMatrices.j5])
          | succ kj193 =>
           have H:=HA.out
           clear HA
           simp only [laws_FnMatrices.j5] at H
           have H':=am H
           clear H
           go_wp2
           repeat (go_quiet (fail);try go_wp2)
           go_meet
           case rel=>exact ⟨_,H',⟨by have:=HJ8.out;have:=HJ62.out;have:=HJ98.out;have:=HJ193.out;first|omega|exact Nat.le_refl _⟩,⟨by refine sN ?_;exact Kd.N_mono HO_365000.out (fun _ hk=>⟨hk.1,⟨hk.2.1,⟨hk.2.2.2.2.2.1,⟨hk.2.2.2.2.2.2.1,hk.2.2.2.2.2.2.2.1⟩⟩⟩⟩)⟩,⟨by refine sN ?_;exact Kd.N_mono HO_370000.out (fun _ hk=>⟨hk.1,⟨hk.2.1,⟨hk.2.2.2.2.2.1,⟨hk.2.2.2.2.2.2.1,hk.2.2.2.2.2.2.2.1⟩⟩⟩⟩)⟩,⟨by refine sN ?_;exact Kd.N_mono HO_375000.out (fun _ hk=>⟨hk.1,⟨hk.2.1,⟨hk.2.2.2.2.2.1,⟨hk.2.2.2.2.2.2.1,hk.2.2.2.2.2.2.2.1⟩⟩⟩⟩)⟩,⟨yB BK364⟩,⟨yB BK369⟩,⟨yB BK374⟩,⟨yW HB⟩⟩
      replace c94:=Bool.eq_false_iff.mpr c94
      subst c94
      replace H:=yn H
      have H':=am H
      clear H
      go_wp2
      repeat (go_quiet (fail);try go_wp2)
      go_meet
      case rel=>exact ⟨_,H',⟨D67⟩,⟨by refine sN ?_;exact Kd.N_mono HO_365000.out (fun _ hk=>⟨hk.2.1,⟨hk.2.2.1,⟨hk.2.2.2.1,⟨hk.2.2.2.2.1,hk.2.2.2.2.2⟩⟩⟩⟩)⟩,⟨by refine sN ?_;exact Kd.N_mono HO_370000.out (fun _ hk=>⟨hk.2.1,⟨hk.2.2.1,⟨hk.2.2.2.1,⟨hk.2.2.2.2.1,hk.2.2.2.2.2⟩⟩⟩⟩)⟩,⟨by refine sN ?_;exact Kd.N_mono HO_375000.out (fun _ hk=>⟨hk.2.1,⟨hk.2.2.1,⟨hk.2.2.2.1,⟨hk.2.2.2.2.1,hk.2.2.2.2.2⟩⟩⟩⟩)⟩,⟨yB BK364⟩,⟨yB BK369⟩,⟨yB BK374⟩,⟨yW HB⟩⟩
     case rest=>as_aux_lemma=>
      clear HC93
      try clear c1
      try clear c2
      try clear p2
      try clear c3
      try clear c3b0
      try clear p3
      try clear q3
      try clear hx3
      try clear qi3
      try clear c4
      try clear p4
      try clear q4
      try clear hx4
      try clear c5
      try clear c6
      try clear p6
      try clear c7
      try clear c8
      try clear c9
      try clear c10
      try clear c11
      try clear c12
      try clear c13
      try clear c14
      try clear c15
      try clear c16
      try clear c17
      try clear c18
      try clear c19
      try clear c20
      try clear c23
      try clear c24
      try clear c30
      try clear c30b0
      try clear c30b1
      try clear c30b2
      try clear c32
      try clear c33
      try clear c33b0
      try clear c33b1
      try clear c33b2
      try clear c34
      try clear c35
      try clear c37
      try clear c38
      try clear p38
      try clear q38
      try clear hx38
      try clear qi38
      try clear c40
      try clear c40b0
      try clear c40b1
      try clear c41
      try clear p41
      try clear q41
      try clear hx41
      try clear c42
      try clear c43
      try clear c45
      try clear c50
      try clear c51
      try clear c53
      try clear c56
      try clear c57
      try clear c59
      try clear c62
      try clear c64
      try clear p64
      try clear c68
      try clear c69
      try clear c74
      try clear c75
      try clear c76
      try clear c79
      try clear c80
      try clear c81
      try clear c81b0
      try clear c81b1
      try clear c82
      try clear c82b0
      try clear c82b1
      try clear c83
      try clear c83b0
      try clear c83b1
      try clear c83b2
      try clear c84
      try clear c85
      try clear c86
      try clear c88
      try clear c89
      try clear c90
      try clear c92
      try clear c94
      try clear c100
      try clear c101
      try clear c103
      try clear c108
      try clear c109
      try clear c110
      try clear c117
      try clear c118
      try clear c119
      try clear c120
      try clear c126
      try clear c127
      try clear c128
      try clear c129
      try clear c130
      try clear c135
      try clear c136
      try clear c137
      try clear c139
      try clear c141
      try clear c142
      try clear c143
      try clear c144
      try clear c145
      try clear c146
      try clear c148
      try clear c149
      try clear c150
      try clear c151
      try clear c154
      try clear c155
      try clear c156
      try clear c160
      try clear c161
      try clear c163
      try clear c164
      try clear c165
      try clear c166
      try clear c167
      try clear c169
      try clear c170
      try clear c171
      try clear c172
      try clear c175
      try clear c176
      try clear c177
      try clear c181
      try clear c182
      try clear c183
      try clear c184
      try clear c185
      try clear c187
      try clear c188
      try clear c189
      try clear c190
      try clear c193
      try clear c195
      try clear c196
      try clear c197
      try clear c198
      try clear c199
      try clear c200
      try clear c202
      try clear c202b0
      try clear c203
      try clear c203b0
      try clear c204
      try clear c204b0
      try clear c206
      try clear c207
      try clear c207b0
      try clear c208
      try clear c208b0
      try clear c208b1
      try clear hcz102_0
      try clear hcz104_0
      try clear hcz111_0
      try clear hcz112_0
      try clear hcz113_0
      try clear hcz121_0
      try clear hcz122_0
      try clear hcz131_0
      try clear hcz132_0
      try clear hcz13_0
      try clear hcz147_0
      try clear hcz152_0
      try clear hcz157_0
      try clear hcz158_0
      try clear hcz162_0
      try clear hcz168_0
      try clear hcz173_0
      try clear hcz178_0
      try clear hcz179_0
      try clear hcz186_0
      try clear hcz18_0
      try clear hcz191_0
      try clear hcz19_0
      try clear hcz201_0
      try clear hcz25_0
      try clear hcz26_0
      try clear hcz28_0
      try clear hcz36_0
      try clear hcz38_0
      try clear hcz44_0
      try clear hcz46_0
      try clear hcz48_0
      try clear hcz52_0
      try clear hcz54_0
      try clear hcz58_0
      try clear hcz60_0
      try clear hcz70_0
      try clear hcz77_0
      try clear hcz87_0
      try clear hcz91_0
      try clear hfz102_0
      try clear hfz104_0
      try clear hfz111_0
      try clear hfz112_0
      try clear hfz113_0
      try clear hfz121_0
      try clear hfz122_0
      try clear hfz131_0
      try clear hfz132_0
      try clear hfz13_0
      try clear hfz147_0
      try clear hfz152_0
      try clear hfz157_0
      try clear hfz158_0
      try clear hfz162_0
      try clear hfz168_0
      try clear hfz173_0
      try clear hfz178_0
      try clear hfz179_0
      try clear hfz186_0
      try clear hfz18_0
      try clear hfz191_0
      try clear hfz19_0
      try clear hfz201_0
      try clear hfz25_0
      try clear hfz26_0
      try clear hfz28_0
      try clear hfz36_0
      try clear hfz38_0
      try clear hfz44_0
      try clear hfz46_0
      try clear hfz48_0
      try clear hfz52_0
      try clear hfz54_0
      try clear hfz58_0
      try clear hfz60_0
      try clear hfz70_0
      try clear hfz77_0
      try clear hfz87_0
      try clear hfz91_0
      try clear hx388_0
      try clear hx410_0
      try clear hx413_0
      try clear p2
      try clear p3
      try clear p38
      try clear p388
      try clear p4
      try clear p41
      try clear p410
      try clear p413
      try clear p6
      try clear p64
      try clear q3
      try clear q38
      try clear q388
      try clear q4
      try clear q41
      try clear q410
      try clear q413
      obtain ⟨kq,HA,HJ92,HO_365000,HO_370000,HO_375000,BK364,BK369,BK374,HB⟩:=hcut
      cases kq with
      | zero=>exact absurd HA.out (by simp [laws_FnMatrices.j6])
      | succ kj92 =>
       have H:=HA.out
       clear HA
       simp only [laws_FnMatrices.j6] at H
       obtain ⟨⟨t414,t417⟩,A212,H⟩:=yo H
       try dsimp only at H
       obtain ⟨⟨t422,t425⟩,A213,H⟩:=yo H
       try dsimp only at H
       obtain ⟨⟨t427,t430⟩,A214,H⟩:=yo H
       try dsimp only at H
       have HC215:=am H
       clear H
       go_upto_region 33 with (first|(go_at_call 82;(with_reducible refine (spec_DrawProduct.calls kj92 _ _ l1 t414 t417 _ (yc (Kd.C_below HR1.out HB.out)) HC1.out A212.out).mono ?_);rintro e w216 ⟨v415,v418,rfl,ho0,ho1,hb⟩;have HO416:=am (Kd.N_lower (Kd.N_mono (ok':=fun k_=>some k_ ≠ (v418:Value).ownBlock∧some k_ ≠ (.slice Ao12 t358.length co12:Value).ownBlock∧some k_ ≠ (.slice Ao16 t365.length co16:Value).ownBlock∧some k_ ≠ (.slice Ao22 t370.length co22:Value).ownBlock∧k_ ≠ gb364∧k_ ≠ gb369∧k_ ≠ gb374) (Kd.S_N (Kd.S_bound ho0)) (fun k_ hk_=>⟨hk_.1,(Kd.fresh' (Kd.N_lt (yN HO_365000)) k_ hk_.2.1),(Kd.fresh' (Kd.N_lt (yN HO_370000)) k_ hk_.2.1),(Kd.fresh' (Kd.N_lt (yN HO_375000)) k_ hk_.2.1),(yz BK364 k_ hk_.2.1),(yz BK369 k_ hk_.2.1),(yz BK374 k_ hk_.2.1)⟩)) (pz (yW HB)));have HO419:=am (Kd.N_lower (Kd.N_mono (ok':=fun k_=>some k_ ≠ (v415:Value).ownBlock∧some k_ ≠ (.slice Ao12 t358.length co12:Value).ownBlock∧some k_ ≠ (.slice Ao16 t365.length co16:Value).ownBlock∧some k_ ≠ (.slice Ao22 t370.length co22:Value).ownBlock∧k_ ≠ gb364∧k_ ≠ gb369∧k_ ≠ gb374) (Kd.S_N (Kd.S_bound ho1)) (fun k_ hk_=>⟨hk_.1,(Kd.fresh' (Kd.N_lt (yN HO_365000)) k_ hk_.2.1),(Kd.fresh' (Kd.N_lt (yN HO_370000)) k_ hk_.2.1),(Kd.fresh' (Kd.N_lt (yN HO_375000)) k_ hk_.2.1),(yz BK364 k_ hk_.2.1),(yz BK369 k_ hk_.2.1),(yz BK374 k_ hk_.2.1)⟩)) (pz (yW HB)));replace HO_365000:=am (Kd.N_mono (Kd.N_told (Kd.N_told (Kd.N_old (yN HO_365000) hb) D5) (by first|exact Kd.N_base ho1|exact Kd.S_base ho1|exact Kd.R_base ho1)) (fun _ h_=>h_.1));replace HO_370000:=am (Kd.N_mono (Kd.N_told (Kd.N_told (Kd.N_old (yN HO_370000) hb) D5) (by first|exact Kd.N_base ho1|exact Kd.S_base ho1|exact Kd.R_base ho1)) (fun _ h_=>h_.1));replace HO_375000:=am (Kd.N_mono (Kd.N_told (Kd.N_told (Kd.N_old (yN HO_375000) hb) D5) (by first|exact Kd.N_base ho1|exact Kd.S_base ho1|exact Kd.R_base ho1)) (fun _ h_=>h_.1));replace BK364:=yb BK364 hb;replace BK369:=yb BK369 hb;replace BK374:=yb BK374 hb;replace HB:=yH HB hb;clear hb ho0 ho1)|((with_reducible refine gD 31 ?_);(try (refine gate_guard D35 ?_;dsimp only));refine gB (cs:=#[.slice none 0 0]) 43 ?_;intro gb420 hg w217 hbox hb;replace HO_365000:=oN HO_365000 hg hb;replace HO_370000:=oN HO_370000 hg hb;replace HO_375000:=oN HO_375000 hg hb;replace HO416:=oN HO416 hg hb;replace HO419:=oN HO419 hg hb;have BK420:=am (hbox);have GW420:=ye HB hg;replace HB:=yH HB hb;have NB364_420:=yl BK364 hg;have NB420_364:=yg BK364 hg;replace BK364:=yb BK364 hb;have NB369_420:=yl BK369 hg;have NB420_369:=yg BK369 hg;replace BK369:=yb BK369 hb;have NB374_420:=yl BK374 hg;have NB420_374:=yg BK374 hg;replace BK374:=yb BK374 hb;have GE420:=GW420;clear hb hbox hg)|((with_reducible refine gD 32 ?_);(try (refine gate_guard D35 ?_;dsimp only));refine gB (cs:=#[.slice none 0 0]) 43 ?_;intro gb421 hg w218 hbox hb;replace HO_365000:=oN HO_365000 hg hb;replace HO_370000:=oN HO_370000 hg hb;replace HO_375000:=oN HO_375000 hg hb;replace HO416:=oN HO416 hg hb;replace HO419:=oN HO419 hg hb;have BK421:=am (hbox);have GW421:=ye HB hg;replace HB:=yH HB hb;have NB364_421:=yl BK364 hg;have NB421_364:=yg BK364 hg;replace BK364:=yb BK364 hb;have NB369_421:=yl BK369 hg;have NB421_369:=yg BK369 hg;replace BK369:=yb BK369 hb;have NB374_421:=yl BK374 hg;have NB421_374:=yg BK374 hg;replace BK374:=yb BK374 hb;have NB420_421:=yl BK420 hg;have NB421_420:=yg BK420 hg;replace BK420:=yb BK420 hb;have GE421:=GW421;clear hb hbox hg;obtain ⟨Ao219,co219,eo219⟩:=Kd.N_slice HO416.out;subst eo219;have hnb220:=NB420_364.out;have hnc220:=NB364_420.out;have hnb221:=NB420_369.out;have hnc221:=NB369_420.out;have hnb222:=NB420_374.out;have hnc222:=NB374_420.out;have hnb223:=NB420_421.out;have hnc223:=NB421_420.out;obtain ⟨hcz224_0,hfz224_0⟩:=yk1 BK420;obtain ⟨Ao225,co225,eo225⟩:=Kd.N_slice HO419.out;subst eo225;have hnb226:=NB421_364.out;have hnc226:=NB364_421.out;have hnb227:=NB421_369.out;have hnc227:=NB369_421.out;have hnb228:=NB421_374.out;have hnc228:=NB374_421.out;obtain ⟨hcz229_0,hfz229_0⟩:=yk1 BK421)|(go_at_call 79;(with_reducible refine (impl_Product.calls kj92 _ _ t414 _ _ t417 t422 t425 _ (by refine (Kd.N_reads' (e:=57) (base:=w.heap.size) (ok:=fun k_=>(((some k_ ≠ (.slice Ao225 t417.length co225:Value).ownBlock∧(some k_ ≠ (.slice Ao12 t358.length co12:Value).ownBlock∧(some k_ ≠ (.slice Ao16 t365.length co16:Value).ownBlock∧(some k_ ≠ (.slice Ao22 t370.length co22:Value).ownBlock∧(k_ ≠ gb364∧(k_ ≠ gb369∧k_ ≠ gb374))))))∧k_ ≠ gb420)∧k_ ≠ gb421)) (n:=t414.length) (c:=co219) ?_).2.2;exact D39) (by exact (Kd.N_reads' HO416.out).2.1) (by refine (Kd.N_reads' (e:=57) (base:=w.heap.size) (ok:=fun k_=>(((some k_ ≠ (.slice Ao219 t414.length co219:Value).ownBlock∧(some k_ ≠ (.slice Ao12 t358.length co12:Value).ownBlock∧(some k_ ≠ (.slice Ao16 t365.length co16:Value).ownBlock∧(some k_ ≠ (.slice Ao22 t370.length co22:Value).ownBlock∧(k_ ≠ gb364∧(k_ ≠ gb369∧k_ ≠ gb374))))))∧k_ ≠ gb420)∧k_ ≠ gb421)) (n:=t417.length) (c:=co225) ?_).2.2;exact D38) (by exact (Kd.N_reads' HO419.out).2.1) A213.out).mono ?_);rintro e w230 ⟨v423,rfl,ho0,hb⟩;have HO424:=am (Kd.N_lower (Kd.N_mono (ok':=fun k_=>some k_ ≠ (.slice Ao12 t358.length co12:Value).ownBlock∧some k_ ≠ (.slice Ao16 t365.length co16:Value).ownBlock∧some k_ ≠ (.slice Ao22 t370.length co22:Value).ownBlock∧some k_ ≠ (.slice Ao219 t414.length co219:Value).ownBlock∧some k_ ≠ (.slice Ao225 t417.length co225:Value).ownBlock∧k_ ≠ gb364∧k_ ≠ gb369∧k_ ≠ gb374∧k_ ≠ gb420∧k_ ≠ gb421) (Kd.S_N (Kd.S_bound ho0)) (fun k_ hk_=>⟨(Kd.fresh' (Kd.N_lt D65) k_ hk_.2.1),(Kd.fresh' (Kd.N_lt D64) k_ hk_.2.1),(Kd.fresh' (Kd.N_lt D63) k_ hk_.2.1),(Kd.fresh' (Kd.N_lt D39) k_ hk_.2.1),(Kd.fresh' (Kd.N_lt D38) k_ hk_.2.1),(Kd.freshB (g:=gb364) (o:=.cells #[.slice Ao12 t358.length co12] 43 (0,0)) (yF BK364) k_ hk_.2.1),(Kd.freshB (g:=gb369) (o:=.cells #[.slice Ao16 t365.length co16] 43 (0,0)) (yF BK369) k_ hk_.2.1),(Kd.freshB (g:=gb374) (o:=.cells #[.slice Ao22 t370.length co22] 43 (0,0)) (yF BK374) k_ hk_.2.1),(Kd.freshB (g:=gb420) (o:=.cells #[.slice Ao219 t414.length co219] 43 (0,0)) D144 k_ hk_.2.1),(Kd.freshB (g:=gb421) (o:=.cells #[.slice Ao225 t417.length co225] 43 (0,0)) (by refine sB ?_;refine blk_put (cs:=#[.slice none 0 0]) ?_ 0 _ rfl;exact yF BK421) k_ hk_.2.1)⟩)) (pz (yW HB)));replace HO_365000:=am (Kd.N_elder' D65 D5 hb);replace HO_370000:=am (Kd.N_elder' D64 D5 hb);replace HO_375000:=am (Kd.N_elder' D63 D5 hb);replace HO416:=am (Kd.N_elder' D39 D5 hb);replace HO419:=am (Kd.N_elder' D38 D5 hb);replace BK364:=am (qb (g:=gb364) (o:=.cells #[.slice Ao12 t358.length co12] 43 (0,0)) (yF BK364) hb);replace BK369:=am (qb (g:=gb369) (o:=.cells #[.slice Ao16 t365.length co16] 43 (0,0)) (yF BK369) hb);replace BK374:=am (qb (g:=gb374) (o:=.cells #[.slice Ao22 t370.length co22] 43 (0,0)) (yF BK374) hb);replace BK420:=am (qb (g:=gb420) (o:=.cells #[.slice Ao219 t414.length co219] 43 (0,0)) D144 hb);replace BK421:=am (qb (g:=gb421) (o:=.cells #[.slice Ao225 t417.length co225] 43 (0,0)) (by refine sB ?_;refine blk_put (cs:=#[.slice none 0 0]) ?_ 0 _ rfl;exact yF BK421) hb);replace HB:=yH HB hb;clear hb ho0)|((with_reducible refine gD 33 ?_);(try (refine gate_guard D35 ?_;dsimp only));refine gB (cs:=#[.slice none 0 0]) 43 ?_;intro gb426 hg w231 hbox hb;replace HO_365000:=oN HO_365000 hg hb;replace HO_370000:=oN HO_370000 hg hb;replace HO_375000:=oN HO_375000 hg hb;replace HO416:=oN HO416 hg hb;replace HO419:=oN HO419 hg hb;replace HO424:=oN HO424 hg hb;have BK426:=am (hbox);have GW426:=ye HB hg;replace HB:=yH HB hb;have NB364_426:=yl BK364 hg;have NB426_364:=yg BK364 hg;replace BK364:=yb BK364 hb;have NB369_426:=yl BK369 hg;have NB426_369:=yg BK369 hg;replace BK369:=yb BK369 hb;have NB374_426:=yl BK374 hg;have NB426_374:=yg BK374 hg;replace BK374:=yb BK374 hb;have NB420_426:=yl BK420 hg;have NB426_420:=yg BK420 hg;replace BK420:=yb BK420 hb;have NB421_426:=yl BK421 hg;have NB426_421:=yg BK421 hg;replace BK421:=yb BK421 hb;have GE426:=GW426;clear hb hbox hg;obtain ⟨Ao232,co232,eo232⟩:=Kd.N_slice HO424.out;subst eo232;have hnb233:=NB426_364.out;have hnc233:=NB364_426.out;have hnb234:=NB426_369.out;have hnc234:=NB369_426.out;have hnb235:=NB426_374.out;have hnc235:=NB374_426.out;have hnb236:=NB426_420.out;have hnc236:=NB420_426.out;have hnb237:=NB426_421.out;have hnc237:=NB421_426.out;obtain ⟨hcz238_0,hfz238_0⟩:=yk1 BK426;obtain ⟨hcz239_0,hfz239_0⟩:=yk1 BK420;obtain ⟨hcz240_0,hfz240_0⟩:=yk1 BK421)|(go_at_call 83;(with_reducible refine (spec_Product.calls kj92 _ _ t414 _ _ t417 t427 t430 _ (by refine (Kd.N_reads' (e:=57) (base:=w.heap.size) (ok:=fun k_=>(((((some k_ ≠ (.slice Ao225 t417.length co225:Value).ownBlock∧(some k_ ≠ (.slice Ao12 t358.length co12:Value).ownBlock∧(some k_ ≠ (.slice Ao16 t365.length co16:Value).ownBlock∧(some k_ ≠ (.slice Ao22 t370.length co22:Value).ownBlock∧(k_ ≠ gb364∧(k_ ≠ gb369∧k_ ≠ gb374))))))∧k_ ≠ gb420)∧k_ ≠ gb421)∧some k_ ≠ (.slice Ao232 t422.length co232:Value).ownBlock)∧k_ ≠ gb426)) (n:=t414.length) (c:=co219) ?_).2.2;exact D60) (by exact (Kd.N_reads' HO416.out).2.1) (by refine (Kd.N_reads' (e:=57) (base:=w.heap.size) (ok:=fun k_=>(((((some k_ ≠ (.slice Ao219 t414.length co219:Value).ownBlock∧(some k_ ≠ (.slice Ao12 t358.length co12:Value).ownBlock∧(some k_ ≠ (.slice Ao16 t365.length co16:Value).ownBlock∧(some k_ ≠ (.slice Ao22 t370.length co22:Value).ownBlock∧(k_ ≠ gb364∧(k_ ≠ gb369∧k_ ≠ gb374))))))∧k_ ≠ gb420)∧k_ ≠ gb421)∧some k_ ≠ (.slice Ao232 t422.length co232:Value).ownBlock)∧k_ ≠ gb426)) (n:=t417.length) (c:=co225) ?_).2.2;exact D59) (by exact (Kd.N_reads' HO419.out).2.1) A214.out).mono ?_);rintro e w241 ⟨v428,rfl,ho0,hb⟩;have HO429:=am (Kd.N_lower (Kd.N_mono (ok':=fun k_=>some k_ ≠ (.slice Ao12 t358.length co12:Value).ownBlock∧some k_ ≠ (.slice Ao16 t365.length co16:Value).ownBlock∧some k_ ≠ (.slice Ao22 t370.length co22:Value).ownBlock∧some k_ ≠ (.slice Ao219 t414.length co219:Value).ownBlock∧some k_ ≠ (.slice Ao225 t417.length co225:Value).ownBlock∧some k_ ≠ (.slice Ao232 t422.length co232:Value).ownBlock∧k_ ≠ gb364∧k_ ≠ gb369∧k_ ≠ gb374∧k_ ≠ gb420∧k_ ≠ gb421∧k_ ≠ gb426) (Kd.S_N (Kd.S_bound ho0)) (fun k_ hk_=>⟨(Kd.fresh' (Kd.N_lt D109) k_ hk_.2.1),(Kd.fresh' (Kd.N_lt D108) k_ hk_.2.1),(Kd.fresh' (Kd.N_lt D107) k_ hk_.2.1),(Kd.fresh' (Kd.N_lt D60) k_ hk_.2.1),(Kd.fresh' (Kd.N_lt D59) k_ hk_.2.1),(Kd.fresh' (Kd.N_lt D123) k_ hk_.2.1),(Kd.freshB (g:=gb364) (o:=.cells #[.slice Ao12 t358.length co12] 43 (0,0)) (yF BK364) k_ hk_.2.1),(Kd.freshB (g:=gb369) (o:=.cells #[.slice Ao16 t365.length co16] 43 (0,0)) (yF BK369) k_ hk_.2.1),(Kd.freshB (g:=gb374) (o:=.cells #[.slice Ao22 t370.length co22] 43 (0,0)) (yF BK374) k_ hk_.2.1),(Kd.freshB (g:=gb420) (o:=.cells #[.slice Ao219 t414.length co219] 43 (0,0)) (yF BK420) k_ hk_.2.1),(Kd.freshB (g:=gb421) (o:=.cells #[.slice Ao225 t417.length co225] 43 (0,0)) (yF BK421) k_ hk_.2.1),(Kd.freshB (g:=gb426) (o:=.cells #[.slice Ao232 t422.length co232] 43 (0,0)) (by refine sB ?_;refine blk_put (cs:=#[.slice none 0 0]) ?_ 0 _ rfl;exact yB BK426) k_ hk_.2.1)⟩)) (pz (yW HB)));replace HO_365000:=am (Kd.N_elder' D109 D5 hb);replace HO_370000:=am (Kd.N_elder' D108 D5 hb);replace HO_375000:=am (Kd.N_elder' D107 D5 hb);replace HO416:=am (Kd.N_elder' D60 D5 hb);replace HO419:=am (Kd.N_elder' D59 D5 hb);replace HO424:=am (Kd.N_elder' D123 D5 hb);replace BK364:=am (qb (g:=gb364) (o:=.cells #[.slice Ao12 t358.length co12] 43 (0,0)) (yF BK364) hb);replace BK369:=am (qb (g:=gb369) (o:=.cells #[.slice Ao16 t365.length co16] 43 (0,0)) (yF BK369) hb);replace BK374:=am (qb (g:=gb374) (o:=.cells #[.slice Ao22 t370.length co22] 43 (0,0)) (yF BK374) hb);replace BK420:=am (qb (g:=gb420) (o:=.cells #[.slice Ao219 t414.length co219] 43 (0,0)) (yF BK420) hb);replace BK421:=am (qb (g:=gb421) (o:=.cells #[.slice Ao225 t417.length co225] 43 (0,0)) (yF BK421) hb);replace BK426:=am (qb (g:=gb426) (o:=.cells #[.slice Ao232 t422.length co232] 43 (0,0)) (by refine sB ?_;refine blk_put (cs:=#[.slice none 0 0]) ?_ 0 _ rfl;exact yB BK426) hb);replace HB:=yH HB hb;clear hb ho0)|((with_reducible refine gD 35 ?_);(try (refine gate_guard D35 ?_;dsimp only));refine gB (cs:=#[.slice none 0 0]) 43 ?_;intro gb431 hg w242 hbox hb;replace HO_365000:=oN HO_365000 hg hb;replace HO_370000:=oN HO_370000 hg hb;replace HO_375000:=oN HO_375000 hg hb;replace HO416:=oN HO416 hg hb;replace HO419:=oN HO419 hg hb;replace HO424:=oN HO424 hg hb;replace HO429:=oN HO429 hg hb;have BK431:=am (hbox);have GW431:=ye HB hg;replace HB:=yH HB hb;have NB364_431:=yl BK364 hg;have NB431_364:=yg BK364 hg;replace BK364:=yb BK364 hb;have NB369_431:=yl BK369 hg;have NB431_369:=yg BK369 hg;replace BK369:=yb BK369 hb;have NB374_431:=yl BK374 hg;have NB431_374:=yg BK374 hg;replace BK374:=yb BK374 hb;have NB420_431:=yl BK420 hg;have NB431_420:=yg BK420 hg;replace BK420:=yb BK420 hb;have NB421_431:=yl BK421 hg;have NB431_421:=yg BK421 hg;replace BK421:=yb BK421 hb;have NB426_431:=yl BK426 hg;have NB431_426:=yg BK426 hg;replace BK426:=yb BK426 hb;have GE431:=GW431;clear hb hbox hg;obtain ⟨Ao243,co243,eo243⟩:=Kd.N_slice HO429.out;subst eo243;have hnb244:=NB431_364.out;have hnc244:=NB364_431.out;have hnb245:=NB431_369.out;have hnc245:=NB369_431.out;have hnb246:=NB431_374.out;have hnc246:=NB374_431.out;have hnb247:=NB431_420.out;have hnc247:=NB420_431.out;have hnb248:=NB431_421.out;have hnc248:=NB421_431.out;have hnb249:=NB431_426.out;have hnc249:=NB426_431.out;obtain ⟨hcz250_0,hfz250_0⟩:=yk1 BK431))
       (try simp only [Act.put,q1,q2,q3])
       go_cut [252] (fun v252 wc=>∃ (kq:Nat) (x252_214:Bool),v252 = .bool x252_214∧Aside0 (laws_FnMatrices.j7 kq t425 x252_214 t414 t417 t422=some r)∧Aside0 (kq≤kj92)∧Aside0 (Kd.N (Kd.slice 5 (Kd.int .u8)) 57 wc w.heap.size (fun k_=>some k_ ≠ ((.slice Ao16 t365.length co16):Value).ownBlock∧some k_ ≠ ((.slice Ao22 t370.length co22):Value).ownBlock∧some k_ ≠ ((.slice Ao219 t414.length co219):Value).ownBlock∧some k_ ≠ ((.slice Ao225 t417.length co225):Value).ownBlock∧some k_ ≠ ((.slice Ao232 t422.length co232):Value).ownBlock∧some k_ ≠ ((.slice Ao243 t427.length co243):Value).ownBlock∧k_ ≠ gb364∧k_ ≠ gb369∧k_ ≠ gb374∧k_ ≠ gb420∧k_ ≠ gb421∧k_ ≠ gb426∧k_ ≠ gb431) (.slice Ao12 t358.length co12) t358)∧Aside0 (Kd.N (Kd.slice 5 (Kd.int .u8)) 57 wc w.heap.size (fun k_=>some k_ ≠ ((.slice Ao12 t358.length co12):Value).ownBlock∧some k_ ≠ ((.slice Ao22 t370.length co22):Value).ownBlock∧some k_ ≠ ((.slice Ao219 t414.length co219):Value).ownBlock∧some k_ ≠ ((.slice Ao225 t417.length co225):Value).ownBlock∧some k_ ≠ ((.slice Ao232 t422.length co232):Value).ownBlock∧some k_ ≠ ((.slice Ao243 t427.length co243):Value).ownBlock∧k_ ≠ gb364∧k_ ≠ gb369∧k_ ≠ gb374∧k_ ≠ gb420∧k_ ≠ gb421∧k_ ≠ gb426∧k_ ≠ gb431) (.slice Ao16 t365.length co16) t365)∧Aside0 (Kd.N (Kd.slice 5 (Kd.int .u8)) 57 wc w.heap.size (fun k_=>some k_ ≠ ((.slice Ao12 t358.length co12):Value).ownBlock∧some k_ ≠ ((.slice Ao16 t365.length co16):Value).ownBlock∧some k_ ≠ ((.slice Ao219 t414.length co219):Value).ownBlock∧some k_ ≠ ((.slice Ao225 t417.length co225):Value).ownBlock∧some k_ ≠ ((.slice Ao232 t422.length co232):Value).ownBlock∧some k_ ≠ ((.slice Ao243 t427.length co243):Value).ownBlock∧k_ ≠ gb364∧k_ ≠ gb369∧k_ ≠ gb374∧k_ ≠ gb420∧k_ ≠ gb421∧k_ ≠ gb426∧k_ ≠ gb431) (.slice Ao22 t370.length co22) t370)∧Aside0 (Kd.N (Kd.slice 5 (Kd.int .u8)) 57 wc w.heap.size (fun k_=>some k_ ≠ ((.slice Ao12 t358.length co12):Value).ownBlock∧some k_ ≠ ((.slice Ao16 t365.length co16):Value).ownBlock∧some k_ ≠ ((.slice Ao22 t370.length co22):Value).ownBlock∧some k_ ≠ ((.slice Ao225 t417.length co225):Value).ownBlock∧some k_ ≠ ((.slice Ao232 t422.length co232):Value).ownBlock∧some k_ ≠ ((.slice Ao243 t427.length co243):Value).ownBlock∧k_ ≠ gb364∧k_ ≠ gb369∧k_ ≠ gb374∧k_ ≠ gb420∧k_ ≠ gb421∧k_ ≠ gb426∧k_ ≠ gb431) (.slice Ao219 t414.length co219) t414)∧Aside0 (Kd.N (Kd.slice 5 (Kd.int .u8)) 57 wc w.heap.size (fun k_=>some k_ ≠ ((.slice Ao12 t358.length co12):Value).ownBlock∧some k_ ≠ ((.slice Ao16 t365.length co16):Value).ownBlock∧some k_ ≠ ((.slice Ao22 t370.length co22):Value).ownBlock∧some k_ ≠ ((.slice Ao219 t414.length co219):Value).ownBlock∧some k_ ≠ ((.slice Ao232 t422.length co232):Value).ownBlock∧some k_ ≠ ((.slice Ao243 t427.length co243):Value).ownBlock∧k_ ≠ gb364∧k_ ≠ gb369∧k_ ≠ gb374∧k_ ≠ gb420∧k_ ≠ gb421∧k_ ≠ gb426∧k_ ≠ gb431) (.slice Ao225 t417.length co225) t417)∧Aside0 (Kd.N (Kd.slice 5 (Kd.int .u8)) 57 wc w.heap.size (fun k_=>some k_ ≠ ((.slice Ao12 t358.length co12):Value).ownBlock∧some k_ ≠ ((.slice Ao16 t365.length co16):Value).ownBlock∧some k_ ≠ ((.slice Ao22 t370.length co22):Value).ownBlock∧some k_ ≠ ((.slice Ao219 t414.length co219):Value).ownBlock∧some k_ ≠ ((.slice Ao225 t417.length co225):Value).ownBlock∧some k_ ≠ ((.slice Ao243 t427.length co243):Value).ownBlock∧k_ ≠ gb364∧k_ ≠ gb369∧k_ ≠ gb374∧k_ ≠ gb420∧k_ ≠ gb421∧k_ ≠ gb426∧k_ ≠ gb431) (.slice Ao232 t422.length co232) t422)∧Aside0 (Kd.N (Kd.slice 5 (Kd.int .u8)) 57 wc w.heap.size (fun k_=>some k_ ≠ ((.slice Ao12 t358.length co12):Value).ownBlock∧some k_ ≠ ((.slice Ao16 t365.length co16):Value).ownBlock∧some k_ ≠ ((.slice Ao22 t370.length co22):Value).ownBlock∧some k_ ≠ ((.slice Ao219 t414.length co219):Value).ownBlock∧some k_ ≠ ((.slice Ao225 t417.length co225):Value).ownBlock∧some k_ ≠ ((.slice Ao232 t422.length co232):Value).ownBlock∧k_ ≠ gb364∧k_ ≠ gb369∧k_ ≠ gb374∧k_ ≠ gb420∧k_ ≠ gb421∧k_ ≠ gb426∧k_ ≠ gb431) (.slice Ao243 t427.length co243) t427)∧Aside0 (wc.heap[gb364]? = some (.cells #[(.slice Ao12 t358.length co12)] 43 (0,0)))∧Aside0 (wc.heap[gb369]? = some (.cells #[(.slice Ao16 t365.length co16)] 43 (0,0)))∧Aside0 (wc.heap[gb374]? = some (.cells #[(.slice Ao22 t370.length co22)] 43 (0,0)))∧Aside0 (wc.heap[gb420]? = some (.cells #[(.slice Ao219 t414.length co219)] 43 (0,0)))∧Aside0 (wc.heap[gb421]? = some (.cells #[(.slice Ao225 t417.length co225)] 43 (0,0)))∧Aside0 (wc.heap[gb426]? = some (.cells #[(.slice Ao232 t422.length co232)] 43 (0,0)))∧Aside0 (wc.heap[gb431]? = some (.cells #[(.slice Ao243 t427.length co243)] 43 (0,0)))∧Aside0 (Below w.heap.size w wc))
       case first=>as_aux_lemma=>
        have H:=HC215.out
        clear HC215
        by_cases c251:(t425 != t430)=true
        ·rw [if_pos c251] at H
         have c251b0:(t425 != t430)=true:=c251
         (try (have c251b1:decide (t425=t430)=false:=by simpa using c251))
         (try (have c251b2:(t425 == t430)=false:=by simpa using c251))
         (try (have c251b3:¬ (t425=t430):=by simpa using c251))
         clear c251
         (first|rw [c251b0]|(simp only [i64_w,i32_w];rw [c251b0])|skip)
         have H':=am H
         clear H
         go_wp2
         repeat (go_quiet (fail);try go_wp2)
         go_meet
         case rel=>exact ⟨_,(true),D2,H',⟨by have:=HJ8.out;have:=HJ62.out;have:=HJ92.out;first|omega|exact Nat.le_refl _⟩,⟨by refine sN ?_;exact Kd.N_mono (Kd.N_far (p:=⟨gb431,0,none⟩) (Kd.N_mono HO_365000.out (fun k_ hk=>(⟨hk,hk.2⟩:_∧k_ ≠ gb431))) (fun _ hk=>hk.2) (.slice Ao243 t427.length co243)) (fun _ hk=>⟨hk.1.1.1.1.1.1.1.1.1.1,⟨hk.1.1.1.1.1.1.1.1.1.2.1,⟨hk.1.1.1.1.1.1.1.1.2,⟨hk.1.1.1.1.1.1.1.2,⟨hk.1.1.1.1.2,⟨hk.1.1.2,⟨hk.1.1.1.1.1.1.1.1.1.2.2.1,⟨hk.1.1.1.1.1.1.1.1.1.2.2.2.1,⟨hk.1.1.1.1.1.1.1.1.1.2.2.2.2,⟨hk.1.1.1.1.1.1.2,⟨hk.1.1.1.1.1.2,⟨hk.1.1.1.2,hk.1.2⟩⟩⟩⟩⟩⟩⟩⟩⟩⟩⟩⟩)⟩,⟨by refine sN ?_;exact Kd.N_mono (Kd.N_far (p:=⟨gb431,0,none⟩) (Kd.N_mono HO_370000.out (fun k_ hk=>(⟨hk,hk.2⟩:_∧k_ ≠ gb431))) (fun _ hk=>hk.2) (.slice Ao243 t427.length co243)) (fun _ hk=>⟨hk.1.1.1.1.1.1.1.1.1.1,⟨hk.1.1.1.1.1.1.1.1.1.2.1,⟨hk.1.1.1.1.1.1.1.1.2,⟨hk.1.1.1.1.1.1.1.2,⟨hk.1.1.1.1.2,⟨hk.1.1.2,⟨hk.1.1.1.1.1.1.1.1.1.2.2.1,⟨hk.1.1.1.1.1.1.1.1.1.2.2.2.1,⟨hk.1.1.1.1.1.1.1.1.1.2.2.2.2,⟨hk.1.1.1.1.1.1.2,⟨hk.1.1.1.1.1.2,⟨hk.1.1.1.2,hk.1.2⟩⟩⟩⟩⟩⟩⟩⟩⟩⟩⟩⟩)⟩,⟨by refine sN ?_;exact Kd.N_mono (Kd.N_far (p:=⟨gb431,0,none⟩) (Kd.N_mono HO_375000.out (fun k_ hk=>(⟨hk,hk.2⟩:_∧k_ ≠ gb431))) (fun _ hk=>hk.2) (.slice Ao243 t427.length co243)) (fun _ hk=>⟨hk.1.1.1.1.1.1.1.1.1.1,⟨hk.1.1.1.1.1.1.1.1.1.2.1,⟨hk.1.1.1.1.1.1.1.1.2,⟨hk.1.1.1.1.1.1.1.2,⟨hk.1.1.1.1.2,⟨hk.1.1.2,⟨hk.1.1.1.1.1.1.1.1.1.2.2.1,⟨hk.1.1.1.1.1.1.1.1.1.2.2.2.1,⟨hk.1.1.1.1.1.1.1.1.1.2.2.2.2,⟨hk.1.1.1.1.1.1.2,⟨hk.1.1.1.1.1.2,⟨hk.1.1.1.2,hk.1.2⟩⟩⟩⟩⟩⟩⟩⟩⟩⟩⟩⟩)⟩,⟨by refine sN ?_;exact Kd.N_mono (Kd.N_far (p:=⟨gb431,0,none⟩) (Kd.N_mono HO416.out (fun k_ hk=>(⟨hk,hk.2⟩:_∧k_ ≠ gb431))) (fun _ hk=>hk.2) (.slice Ao243 t427.length co243)) (fun _ hk=>⟨hk.1.1.1.1.1.1.1.2.1,⟨hk.1.1.1.1.1.1.1.2.2.1,⟨hk.1.1.1.1.1.1.1.2.2.2.1,⟨hk.1.1.1.1.1.1.1.1,⟨hk.1.1.1.1.2,⟨hk.1.1.2,⟨hk.1.1.1.1.1.1.1.2.2.2.2.1,⟨hk.1.1.1.1.1.1.1.2.2.2.2.2.1,⟨hk.1.1.1.1.1.1.1.2.2.2.2.2.2,⟨hk.1.1.1.1.1.1.2,⟨hk.1.1.1.1.1.2,⟨hk.1.1.1.2,hk.1.2⟩⟩⟩⟩⟩⟩⟩⟩⟩⟩⟩⟩)⟩,⟨by refine sN ?_;exact Kd.N_mono (Kd.N_far (p:=⟨gb431,0,none⟩) (Kd.N_mono HO419.out (fun k_ hk=>(⟨hk,hk.2⟩:_∧k_ ≠ gb431))) (fun _ hk=>hk.2) (.slice Ao243 t427.length co243)) (fun _ hk=>⟨hk.1.1.1.1.1.1.1.2.1,⟨hk.1.1.1.1.1.1.1.2.2.1,⟨hk.1.1.1.1.1.1.1.2.2.2.1,⟨hk.1.1.1.1.1.1.1.1,⟨hk.1.1.1.1.2,⟨hk.1.1.2,⟨hk.1.1.1.1.1.1.1.2.2.2.2.1,⟨hk.1.1.1.1.1.1.1.2.2.2.2.2.1,⟨hk.1.1.1.1.1.1.1.2.2.2.2.2.2,⟨hk.1.1.1.1.1.1.2,⟨hk.1.1.1.1.1.2,⟨hk.1.1.1.2,hk.1.2⟩⟩⟩⟩⟩⟩⟩⟩⟩⟩⟩⟩)⟩,⟨by refine sN ?_;exact Kd.N_mono (Kd.N_far (p:=⟨gb431,0,none⟩) (Kd.N_mono HO424.out (fun k_ hk=>(⟨hk,hk.2⟩:_∧k_ ≠ gb431))) (fun _ hk=>hk.2) (.slice Ao243 t427.length co243)) (fun _ hk=>⟨hk.1.1.1.1.1,⟨hk.1.1.1.1.2.1,⟨hk.1.1.1.1.2.2.1,⟨hk.1.1.1.1.2.2.2.1,⟨hk.1.1.1.1.2.2.2.2.1,⟨hk.1.1.2,⟨hk.1.1.1.1.2.2.2.2.2.1,⟨hk.1.1.1.1.2.2.2.2.2.2.1,⟨hk.1.1.1.1.2.2.2.2.2.2.2.1,⟨hk.1.1.1.1.2.2.2.2.2.2.2.2.1,⟨hk.1.1.1.1.2.2.2.2.2.2.2.2.2,⟨hk.1.1.1.2,hk.1.2⟩⟩⟩⟩⟩⟩⟩⟩⟩⟩⟩⟩)⟩,⟨by refine sN ?_;exact Kd.N_mono (Kd.N_far (p:=⟨gb431,0,none⟩) (Kd.N_mono HO429.out (fun k_ hk=>(⟨hk,hk.2⟩:_∧k_ ≠ gb431))) (fun _ hk=>hk.2) (.slice Ao243 t427.length co243)) (fun _ hk=>⟨hk.1.1.1,⟨hk.1.1.2.1,⟨hk.1.1.2.2.1,⟨hk.1.1.2.2.2.1,⟨hk.1.1.2.2.2.2.1,⟨hk.1.1.2.2.2.2.2.1,⟨hk.1.1.2.2.2.2.2.2.1,⟨hk.1.1.2.2.2.2.2.2.2.1,⟨hk.1.1.2.2.2.2.2.2.2.2.1,⟨hk.1.1.2.2.2.2.2.2.2.2.2.1,⟨hk.1.1.2.2.2.2.2.2.2.2.2.2.1,⟨hk.1.1.2.2.2.2.2.2.2.2.2.2.2,hk.1.2⟩⟩⟩⟩⟩⟩⟩⟩⟩⟩⟩⟩)⟩,⟨yF BK364⟩,⟨yF BK369⟩,⟨yF BK374⟩,⟨yF BK420⟩,⟨yF BK421⟩,⟨yF BK426⟩,⟨by refine sB ?_;refine blk_put (cs:=#[.slice none 0 0]) ?_ 0 _ rfl;exact yB BK431⟩,⟨yW HB⟩⟩
        rw [if_neg c251] at H
        have c251b0:(t425 != t430)=false:=by simpa using c251
        (try (have c251b1:decide (t425=t430)=true:=by simpa using c251))
        (try (have c251b2:(t425 == t430)=true:=by simpa using c251))
        clear c251
        (first|rw [c251b0]|(simp only [i64_w,i32_w];rw [c251b0])|skip)
        obtain ⟨t432,A252,H⟩:=yo H
        have H':=am H
        clear H
        have hnb253:=NB426_364.out
        have hnc253:=NB364_426.out
        have hnb254:=NB426_369.out
        have hnc254:=NB369_426.out
        have hnb255:=NB426_374.out
        have hnc255:=NB374_426.out
        have hnb256:=NB426_420.out
        have hnc256:=NB420_426.out
        have hnb257:=NB426_421.out
        have hnc257:=NB421_426.out
        have hnb258:=NB426_431.out
        have hnc258:=NB431_426.out
        obtain ⟨hcz259_0,hfz259_0⟩:=yk1 BK426
        have hnb260:=NB431_364.out
        have hnc260:=NB364_431.out
        have hnb261:=NB431_369.out
        have hnc261:=NB369_431.out
        have hnb262:=NB431_374.out
        have hnc262:=NB374_431.out
        have hnb263:=NB431_420.out
        have hnc263:=NB420_431.out
        have hnb264:=NB431_421.out
        have hnc264:=NB421_431.out
        obtain ⟨hcz265_0,hfz265_0⟩:=yk1 BK431
        go_wp2_with (first|(go_at_call 76;(with_reducible refine (laws_sameMatrices.calls kj92 _ _ t422 _ _ t427 t432 _ (by refine (Kd.N_reads' (e:=57) (base:=w.heap.size) (ok:=fun k_=>((((some k_ ≠ (.slice Ao12 t358.length co12:Value).ownBlock∧(some k_ ≠ (.slice Ao16 t365.length co16:Value).ownBlock∧(some k_ ≠ (.slice Ao22 t370.length co22:Value).ownBlock∧(some k_ ≠ (.slice Ao219 t414.length co219:Value).ownBlock∧(some k_ ≠ (.slice Ao225 t417.length co225:Value).ownBlock∧(k_ ≠ gb364∧(k_ ≠ gb369∧(k_ ≠ gb374∧(k_ ≠ gb420∧k_ ≠ gb421)))))))))∧k_ ≠ gb426)∧some k_ ≠ (.slice Ao243 t427.length co243:Value).ownBlock)∧k_ ≠ gb431)) (n:=t422.length) (c:=co232) ?_).2.2;exact D122) (by exact (Kd.N_reads' HO424.out).2.1) (by refine (Kd.N_reads' (e:=57) (base:=w.heap.size) (ok:=fun k_=>((some k_ ≠ (.slice Ao12 t358.length co12:Value).ownBlock∧(some k_ ≠ (.slice Ao16 t365.length co16:Value).ownBlock∧(some k_ ≠ (.slice Ao22 t370.length co22:Value).ownBlock∧(some k_ ≠ (.slice Ao219 t414.length co219:Value).ownBlock∧(some k_ ≠ (.slice Ao225 t417.length co225:Value).ownBlock∧(some k_ ≠ (.slice Ao232 t422.length co232:Value).ownBlock∧(k_ ≠ gb364∧(k_ ≠ gb369∧(k_ ≠ gb374∧(k_ ≠ gb420∧(k_ ≠ gb421∧k_ ≠ gb426)))))))))))∧k_ ≠ gb431)) (n:=t427.length) (c:=co243) ?_).2.2;exact D121) (by exact (Kd.N_reads' HO429.out).2.1) A252.out).mono ?_);rintro e w266 ⟨rfl,hb⟩;replace HO_365000:=am (Kd.N_below (by refine sN ?_;exact (Kd.N_mono (Kd.N_far (p:=⟨gb431,0,none⟩) (Kd.N_mono HO_365000.out (fun k_ hk=>(⟨hk,hk.2⟩:_∧k_ ≠ gb431))) (fun _ hk=>hk.2) (.slice Ao243 t427.length co243)) (fun _ h_=>h_.1))) hb);replace HO_370000:=am (Kd.N_below (by refine sN ?_;exact (Kd.N_mono (Kd.N_far (p:=⟨gb431,0,none⟩) (Kd.N_mono HO_370000.out (fun k_ hk=>(⟨hk,hk.2⟩:_∧k_ ≠ gb431))) (fun _ hk=>hk.2) (.slice Ao243 t427.length co243)) (fun _ h_=>h_.1))) hb);replace HO_375000:=am (Kd.N_below (by refine sN ?_;exact (Kd.N_mono (Kd.N_far (p:=⟨gb431,0,none⟩) (Kd.N_mono HO_375000.out (fun k_ hk=>(⟨hk,hk.2⟩:_∧k_ ≠ gb431))) (fun _ hk=>hk.2) (.slice Ao243 t427.length co243)) (fun _ h_=>h_.1))) hb);replace HO416:=am (Kd.N_below (by refine sN ?_;exact (Kd.N_mono (Kd.N_far (p:=⟨gb431,0,none⟩) (Kd.N_mono HO416.out (fun k_ hk=>(⟨hk,hk.2⟩:_∧k_ ≠ gb431))) (fun _ hk=>hk.2) (.slice Ao243 t427.length co243)) (fun _ h_=>h_.1))) hb);replace HO419:=am (Kd.N_below (by refine sN ?_;exact (Kd.N_mono (Kd.N_far (p:=⟨gb431,0,none⟩) (Kd.N_mono HO419.out (fun k_ hk=>(⟨hk,hk.2⟩:_∧k_ ≠ gb431))) (fun _ hk=>hk.2) (.slice Ao243 t427.length co243)) (fun _ h_=>h_.1))) hb);replace HO424:=am (Kd.N_below D122 hb);replace HO429:=am (Kd.N_below D121 hb);replace BK364:=am (qb (g:=gb364) (o:=.cells #[.slice Ao12 t358.length co12] 43 (0,0)) (yF BK364) hb);replace BK369:=am (qb (g:=gb369) (o:=.cells #[.slice Ao16 t365.length co16] 43 (0,0)) (yF BK369) hb);replace BK374:=am (qb (g:=gb374) (o:=.cells #[.slice Ao22 t370.length co22] 43 (0,0)) (yF BK374) hb);replace BK420:=am (qb (g:=gb420) (o:=.cells #[.slice Ao219 t414.length co219] 43 (0,0)) (yF BK420) hb);replace BK421:=am (qb (g:=gb421) (o:=.cells #[.slice Ao225 t417.length co225] 43 (0,0)) (yF BK421) hb);replace BK426:=am (qb (g:=gb426) (o:=.cells #[.slice Ao232 t422.length co232] 43 (0,0)) (yF BK426) hb);replace BK431:=am (qb (g:=gb431) (o:=.cells #[.slice Ao243 t427.length co243] 43 (0,0)) (by refine sB ?_;refine blk_put (cs:=#[.slice none 0 0]) ?_ 0 _ rfl;exact yB BK431) hb);replace HB:=yH HB hb;clear hb))
        go_meet
        case rel=>exact ⟨_,(!t432),D2,H',⟨by have:=HJ8.out;have:=HJ62.out;have:=HJ92.out;first|omega|exact Nat.le_refl _⟩,⟨by refine sN ?_;exact Kd.N_mono HO_365000.out (fun _ hk=>⟨hk.1.1.1.1.1.1.1.1.1,⟨hk.1.1.1.1.1.1.1.1.2.1,⟨hk.1.1.1.1.1.1.1.2,⟨hk.1.1.1.1.1.1.2,⟨hk.1.1.1.2,⟨hk.1.2,⟨hk.1.1.1.1.1.1.1.1.2.2.1,⟨hk.1.1.1.1.1.1.1.1.2.2.2.1,⟨hk.1.1.1.1.1.1.1.1.2.2.2.2,⟨hk.1.1.1.1.1.2,⟨hk.1.1.1.1.2,⟨hk.1.1.2,hk.2⟩⟩⟩⟩⟩⟩⟩⟩⟩⟩⟩⟩)⟩,⟨by refine sN ?_;exact Kd.N_mono HO_370000.out (fun _ hk=>⟨hk.1.1.1.1.1.1.1.1.1,⟨hk.1.1.1.1.1.1.1.1.2.1,⟨hk.1.1.1.1.1.1.1.2,⟨hk.1.1.1.1.1.1.2,⟨hk.1.1.1.2,⟨hk.1.2,⟨hk.1.1.1.1.1.1.1.1.2.2.1,⟨hk.1.1.1.1.1.1.1.1.2.2.2.1,⟨hk.1.1.1.1.1.1.1.1.2.2.2.2,⟨hk.1.1.1.1.1.2,⟨hk.1.1.1.1.2,⟨hk.1.1.2,hk.2⟩⟩⟩⟩⟩⟩⟩⟩⟩⟩⟩⟩)⟩,⟨by refine sN ?_;exact Kd.N_mono HO_375000.out (fun _ hk=>⟨hk.1.1.1.1.1.1.1.1.1,⟨hk.1.1.1.1.1.1.1.1.2.1,⟨hk.1.1.1.1.1.1.1.2,⟨hk.1.1.1.1.1.1.2,⟨hk.1.1.1.2,⟨hk.1.2,⟨hk.1.1.1.1.1.1.1.1.2.2.1,⟨hk.1.1.1.1.1.1.1.1.2.2.2.1,⟨hk.1.1.1.1.1.1.1.1.2.2.2.2,⟨hk.1.1.1.1.1.2,⟨hk.1.1.1.1.2,⟨hk.1.1.2,hk.2⟩⟩⟩⟩⟩⟩⟩⟩⟩⟩⟩⟩)⟩,⟨by refine sN ?_;exact Kd.N_mono HO416.out (fun _ hk=>⟨hk.1.1.1.1.1.1.2.1,⟨hk.1.1.1.1.1.1.2.2.1,⟨hk.1.1.1.1.1.1.2.2.2.1,⟨hk.1.1.1.1.1.1.1,⟨hk.1.1.1.2,⟨hk.1.2,⟨hk.1.1.1.1.1.1.2.2.2.2.1,⟨hk.1.1.1.1.1.1.2.2.2.2.2.1,⟨hk.1.1.1.1.1.1.2.2.2.2.2.2,⟨hk.1.1.1.1.1.2,⟨hk.1.1.1.1.2,⟨hk.1.1.2,hk.2⟩⟩⟩⟩⟩⟩⟩⟩⟩⟩⟩⟩)⟩,⟨by refine sN ?_;exact Kd.N_mono HO419.out (fun _ hk=>⟨hk.1.1.1.1.1.1.2.1,⟨hk.1.1.1.1.1.1.2.2.1,⟨hk.1.1.1.1.1.1.2.2.2.1,⟨hk.1.1.1.1.1.1.1,⟨hk.1.1.1.2,⟨hk.1.2,⟨hk.1.1.1.1.1.1.2.2.2.2.1,⟨hk.1.1.1.1.1.1.2.2.2.2.2.1,⟨hk.1.1.1.1.1.1.2.2.2.2.2.2,⟨hk.1.1.1.1.1.2,⟨hk.1.1.1.1.2,⟨hk.1.1.2,hk.2⟩⟩⟩⟩⟩⟩⟩⟩⟩⟩⟩⟩)⟩,⟨by refine sN ?_;exact Kd.N_mono HO424.out (fun _ hk=>⟨hk.1.1.1.1,⟨hk.1.1.1.2.1,⟨hk.1.1.1.2.2.1,⟨hk.1.1.1.2.2.2.1,⟨hk.1.1.1.2.2.2.2.1,⟨hk.1.2,⟨hk.1.1.1.2.2.2.2.2.1,⟨hk.1.1.1.2.2.2.2.2.2.1,⟨hk.1.1.1.2.2.2.2.2.2.2.1,⟨hk.1.1.1.2.2.2.2.2.2.2.2.1,⟨hk.1.1.1.2.2.2.2.2.2.2.2.2,⟨hk.1.1.2,hk.2⟩⟩⟩⟩⟩⟩⟩⟩⟩⟩⟩⟩)⟩,⟨by refine sN ?_;exact Kd.N_mono HO429.out (fun _ hk=>⟨hk.1.1,⟨hk.1.2.1,⟨hk.1.2.2.1,⟨hk.1.2.2.2.1,⟨hk.1.2.2.2.2.1,⟨hk.1.2.2.2.2.2.1,⟨hk.1.2.2.2.2.2.2.1,⟨hk.1.2.2.2.2.2.2.2.1,⟨hk.1.2.2.2.2.2.2.2.2.1,⟨hk.1.2.2.2.2.2.2.2.2.2.1,⟨hk.1.2.2.2.2.2.2.2.2.2.2.1,⟨hk.1.2.2.2.2.2.2.2.2.2.2.2,hk.2⟩⟩⟩⟩⟩⟩⟩⟩⟩⟩⟩⟩)⟩,⟨yB BK364⟩,⟨yB BK369⟩,⟨yB BK374⟩,⟨yB BK420⟩,⟨yB BK421⟩,⟨yB BK426⟩,⟨yB BK431⟩,⟨yW HB⟩⟩
       case rest=>as_aux_lemma=>
        clear HC215
        try clear c1
        try clear c2
        try clear p2
        try clear c3
        try clear c3b0
        try clear p3
        try clear q3
        try clear hx3
        try clear qi3
        try clear c4
        try clear p4
        try clear q4
        try clear hx4
        try clear c5
        try clear c6
        try clear p6
        try clear c7
        try clear c8
        try clear c9
        try clear c10
        try clear c11
        try clear c12
        try clear c13
        try clear c14
        try clear c15
        try clear c16
        try clear c17
        try clear c18
        try clear c19
        try clear c20
        try clear c22
        try clear c23
        try clear c24
        try clear c25
        try clear c26
        try clear c30
        try clear c30b0
        try clear c30b1
        try clear c30b2
        try clear c32
        try clear c33
        try clear c33b0
        try clear c33b1
        try clear c33b2
        try clear c34
        try clear c35
        try clear c37
        try clear c38
        try clear p38
        try clear q38
        try clear hx38
        try clear qi38
        try clear c40
        try clear c40b0
        try clear c40b1
        try clear c41
        try clear p41
        try clear q41
        try clear hx41
        try clear c42
        try clear c43
        try clear c45
        try clear c50
        try clear c51
        try clear c53
        try clear c56
        try clear c57
        try clear c59
        try clear c62
        try clear c64
        try clear p64
        try clear c68
        try clear c69
        try clear c74
        try clear c75
        try clear c76
        try clear c79
        try clear c80
        try clear c81
        try clear c81b0
        try clear c81b1
        try clear c82
        try clear c82b0
        try clear c82b1
        try clear c83
        try clear c83b0
        try clear c83b1
        try clear c83b2
        try clear c84
        try clear c85
        try clear c86
        try clear c88
        try clear c89
        try clear c90
        try clear c92
        try clear c94
        try clear c100
        try clear c101
        try clear c103
        try clear c108
        try clear c109
        try clear c110
        try clear c117
        try clear c118
        try clear c119
        try clear c120
        try clear c126
        try clear c127
        try clear c128
        try clear c129
        try clear c130
        try clear c135
        try clear c136
        try clear c137
        try clear c139
        try clear c141
        try clear c142
        try clear c143
        try clear c144
        try clear c145
        try clear c146
        try clear c148
        try clear c149
        try clear c150
        try clear c151
        try clear c154
        try clear c155
        try clear c156
        try clear c160
        try clear c161
        try clear c163
        try clear c164
        try clear c165
        try clear c166
        try clear c167
        try clear c169
        try clear c170
        try clear c171
        try clear c172
        try clear c175
        try clear c176
        try clear c177
        try clear c181
        try clear c182
        try clear c183
        try clear c184
        try clear c185
        try clear c187
        try clear c188
        try clear c189
        try clear c190
        try clear c193
        try clear c195
        try clear c196
        try clear c197
        try clear c198
        try clear c199
        try clear c200
        try clear c202
        try clear c202b0
        try clear c203
        try clear c203b0
        try clear c204
        try clear c204b0
        try clear c206
        try clear c207
        try clear c207b0
        try clear c208
        try clear c208b0
        try clear c208b1
        try clear c220
        try clear c221
        try clear c222
        try clear c223
        try clear c226
        try clear c227
        try clear c228
        try clear c233
        try clear c234
        try clear c235
        try clear c236
        try clear c237
        try clear c244
        try clear c245
        try clear c246
        try clear c247
        try clear c248
        try clear c249
        try clear c251
        try clear c251b0
        try clear c251b1
        try clear c251b2
        try clear c253
        try clear c254
        try clear c255
        try clear c256
        try clear c257
        try clear c258
        try clear c260
        try clear c261
        try clear c262
        try clear c263
        try clear c264
        try clear hcz102_0
        try clear hcz104_0
        try clear hcz111_0
        try clear hcz112_0
        try clear hcz113_0
        try clear hcz121_0
        try clear hcz122_0
        try clear hcz131_0
        try clear hcz132_0
        try clear hcz13_0
        try clear hcz147_0
        try clear hcz152_0
        try clear hcz157_0
        try clear hcz158_0
        try clear hcz162_0
        try clear hcz168_0
        try clear hcz173_0
        try clear hcz178_0
        try clear hcz179_0
        try clear hcz186_0
        try clear hcz18_0
        try clear hcz191_0
        try clear hcz19_0
        try clear hcz201_0
        try clear hcz224_0
        try clear hcz229_0
        try clear hcz238_0
        try clear hcz239_0
        try clear hcz240_0
        try clear hcz250_0
        try clear hcz259_0
        try clear hcz25_0
        try clear hcz265_0
        try clear hcz26_0
        try clear hcz28_0
        try clear hcz36_0
        try clear hcz38_0
        try clear hcz44_0
        try clear hcz46_0
        try clear hcz48_0
        try clear hcz52_0
        try clear hcz54_0
        try clear hcz58_0
        try clear hcz60_0
        try clear hcz70_0
        try clear hcz77_0
        try clear hcz87_0
        try clear hcz91_0
        try clear hfz102_0
        try clear hfz104_0
        try clear hfz111_0
        try clear hfz112_0
        try clear hfz113_0
        try clear hfz121_0
        try clear hfz122_0
        try clear hfz131_0
        try clear hfz132_0
        try clear hfz13_0
        try clear hfz147_0
        try clear hfz152_0
        try clear hfz157_0
        try clear hfz158_0
        try clear hfz162_0
        try clear hfz168_0
        try clear hfz173_0
        try clear hfz178_0
        try clear hfz179_0
        try clear hfz186_0
        try clear hfz18_0
        try clear hfz191_0
        try clear hfz19_0
        try clear hfz201_0
        try clear hfz224_0
        try clear hfz229_0
        try clear hfz238_0
        try clear hfz239_0
        try clear hfz240_0
        try clear hfz250_0
        try clear hfz259_0
        try clear hfz25_0
        try clear hfz265_0
        try clear hfz26_0
        try clear hfz28_0
        try clear hfz36_0
        try clear hfz38_0
        try clear hfz44_0
        try clear hfz46_0
        try clear hfz48_0
        try clear hfz52_0
        try clear hfz54_0
        try clear hfz58_0
        try clear hfz60_0
        try clear hfz70_0
        try clear hfz77_0
        try clear hfz87_0
        try clear hfz91_0
        try clear hx388_0
        try clear hx410_0
        try clear hx413_0
        try clear p2
        try clear p3
        try clear p38
        try clear p388
        try clear p4
        try clear p41
        try clear p410
        try clear p413
        try clear p6
        try clear p64
        try clear q3
        try clear q38
        try clear q388
        try clear q4
        try clear q41
        try clear q410
        try clear q413
        obtain ⟨kq,x252_214,rfl,HA,HJ214,HO_365000,HO_370000,HO_375000,HO_421000,HO_422000,HO_427000,HO_432000,BK364,BK369,BK374,BK420,BK421,BK426,BK431,HB⟩:=hcut
        cases kq with
        | zero=>exact absurd HA.out (by simp [laws_FnMatrices.j7])
        | succ kj214 =>
         have H:=HA.out
         clear HA
         simp only [laws_FnMatrices.j7] at H
         by_cases c267:x252_214=true
         ·subst c267
          replace H:=yt H
          obtain rfl:=Option.some.inj H
          go_wp2
          repeat (go_quiet (fail);try go_wp2)
          go_ret
          exact ⟨D0,yW HB⟩
         replace c267:=Bool.eq_false_iff.mpr c267
         subst c267
         replace H:=yn H
         by_cases c268:t425=true
         ·subst c268
          replace H:=yt H
          obtain ⟨⟨t433,t436⟩,A269,H⟩:=yo H
          try dsimp only at H
          obtain ⟨⟨t438,t441⟩,A270,H⟩:=yo H
          try dsimp only at H
          obtain ⟨⟨t443,t446⟩,A271,H⟩:=yo H
          try dsimp only at H
          obtain ⟨⟨t448,t451⟩,A272,H⟩:=yo H
          try dsimp only at H
          have HC273:=am H
          clear H
          have hnb274:=NB420_364.out
          have hnc274:=NB364_420.out
          have hnb275:=NB420_369.out
          have hnc275:=NB369_420.out
          have hnb276:=NB420_374.out
          have hnc276:=NB374_420.out
          have hnb277:=NB420_421.out
          have hnc277:=NB421_420.out
          have hnb278:=NB420_426.out
          have hnc278:=NB426_420.out
          have hnb279:=NB420_431.out
          have hnc279:=NB431_420.out
          obtain ⟨hcz280_0,hfz280_0⟩:=yk1 BK420
          go_upto_region 41 with (first|(go_at_call 78;have hz_:=w298;clear hz_;(with_reducible refine (impl_Transposed.calls kj214 _ _ t422 t448 t451 _ (by refine (Kd.N_reads' (e:=57) (base:=w.heap.size) (ok:=fun k_=>(((((((some k_ ≠ (.slice Ao12 t358.length co12:Value).ownBlock∧(some k_ ≠ (.slice Ao16 t365.length co16:Value).ownBlock∧(some k_ ≠ (.slice Ao22 t370.length co22:Value).ownBlock∧(some k_ ≠ (.slice Ao219 t414.length co219:Value).ownBlock∧(some k_ ≠ (.slice Ao225 t417.length co225:Value).ownBlock∧(some k_ ≠ (.slice Ao243 t427.length co243:Value).ownBlock∧(k_ ≠ gb364∧(k_ ≠ gb369∧(k_ ≠ gb374∧(k_ ≠ gb420∧(k_ ≠ gb421∧(k_ ≠ gb426∧k_ ≠ gb431))))))))))))∧some k_ ≠ (.slice Ao283 t433.length co283:Value).ownBlock)∧k_ ≠ gb437)∧some k_ ≠ (.slice Ao300 t438.length co300:Value).ownBlock)∧k_ ≠ gb442)∧some k_ ≠ (.slice Ao313 t443.length co313:Value).ownBlock)∧k_ ≠ gb447)) (n:=t422.length) (c:=co232) ?_).2.2;exact D53) (by exact (Kd.N_reads' HO_427000.out).2.1) A272.out).mono ?_);rintro e w329 ⟨v449,rfl,ho0,hb⟩;have HO450:=am (Kd.N_lower (Kd.N_mono (ok':=fun k_=>some k_ ≠ (.slice Ao12 t358.length co12:Value).ownBlock∧some k_ ≠ (.slice Ao16 t365.length co16:Value).ownBlock∧some k_ ≠ (.slice Ao22 t370.length co22:Value).ownBlock∧some k_ ≠ (.slice Ao219 t414.length co219:Value).ownBlock∧some k_ ≠ (.slice Ao225 t417.length co225:Value).ownBlock∧some k_ ≠ (.slice Ao232 t422.length co232:Value).ownBlock∧some k_ ≠ (.slice Ao243 t427.length co243:Value).ownBlock∧some k_ ≠ (.slice Ao283 t433.length co283:Value).ownBlock∧some k_ ≠ (.slice Ao300 t438.length co300:Value).ownBlock∧some k_ ≠ (.slice Ao313 t443.length co313:Value).ownBlock∧k_ ≠ gb364∧k_ ≠ gb369∧k_ ≠ gb374∧k_ ≠ gb420∧k_ ≠ gb421∧k_ ≠ gb426∧k_ ≠ gb431∧k_ ≠ gb437∧k_ ≠ gb442∧k_ ≠ gb447) (Kd.S_N (Kd.S_bound ho0)) (fun k_ hk_=>⟨(Kd.fresh' (Kd.N_lt D93) k_ hk_.2.1),(Kd.fresh' (Kd.N_lt D92) k_ hk_.2.1),(Kd.fresh' (Kd.N_lt D91) k_ hk_.2.1),(Kd.fresh' (Kd.N_lt D90) k_ hk_.2.1),(Kd.fresh' (Kd.N_lt D89) k_ hk_.2.1),(Kd.fresh' (Kd.N_lt D53) k_ hk_.2.1),(Kd.fresh' (Kd.N_lt D88) k_ hk_.2.1),(Kd.fresh' (Kd.N_lt D119) k_ hk_.2.1),(Kd.fresh' (Kd.N_lt D118) k_ hk_.2.1),(Kd.fresh' (Kd.N_lt D117) k_ hk_.2.1),(Kd.freshB (g:=gb364) (o:=.cells #[.slice Ao12 t358.length co12] 43 (0,0)) (yF BK364) k_ hk_.2.1),(Kd.freshB (g:=gb369) (o:=.cells #[.slice Ao16 t365.length co16] 43 (0,0)) (yF BK369) k_ hk_.2.1),(Kd.freshB (g:=gb374) (o:=.cells #[.slice Ao22 t370.length co22] 43 (0,0)) (yF BK374) k_ hk_.2.1),(Kd.freshB (g:=gb420) (o:=.cells #[.slice Ao219 t414.length co219] 43 (0,0)) (yF BK420) k_ hk_.2.1),(Kd.freshB (g:=gb421) (o:=.cells #[.slice Ao225 t417.length co225] 43 (0,0)) (yF BK421) k_ hk_.2.1),(Kd.freshB (g:=gb426) (o:=.cells #[.slice Ao232 t422.length co232] 43 (0,0)) (yF BK426) k_ hk_.2.1),(Kd.freshB (g:=gb431) (o:=.cells #[.slice Ao243 t427.length co243] 43 (0,0)) (yF BK431) k_ hk_.2.1),(Kd.freshB (g:=gb437) (o:=.cells #[.slice Ao283 t433.length co283] 43 (0,0)) (yF BK437) k_ hk_.2.1),(Kd.freshB (g:=gb442) (o:=.cells #[.slice Ao300 t438.length co300] 43 (0,0)) (yF BK442) k_ hk_.2.1),(Kd.freshB (g:=gb447) (o:=.cells #[.slice Ao313 t443.length co313] 43 (0,0)) (by refine sB ?_;refine blk_put (cs:=#[.slice none 0 0]) ?_ 0 _ rfl;exact yB BK447) k_ hk_.2.1)⟩)) (pz (yW HB)));replace HO_365000:=am (Kd.N_elder' D93 D5 hb);replace HO_370000:=am (Kd.N_elder' D92 D5 hb);replace HO_375000:=am (Kd.N_elder' D91 D5 hb);replace HO_421000:=am (Kd.N_elder' D90 D5 hb);replace HO_422000:=am (Kd.N_elder' D89 D5 hb);replace HO_427000:=am (Kd.N_elder' D53 D5 hb);replace HO_432000:=am (Kd.N_elder' D88 D5 hb);replace HO435:=am (Kd.N_elder' D119 D5 hb);replace HO440:=am (Kd.N_elder' D118 D5 hb);replace HO445:=am (Kd.N_elder' D117 D5 hb);replace BK364:=am (qb (g:=gb364) (o:=.cells #[.slice Ao12 t358.length co12] 43 (0,0)) (yF BK364) hb);replace BK369:=am (qb (g:=gb369) (o:=.cells #[.slice Ao16 t365.length co16] 43 (0,0)) (yF BK369) hb);replace BK374:=am (qb (g:=gb374) (o:=.cells #[.slice Ao22 t370.length co22] 43 (0,0)) (yF BK374) hb);replace BK420:=am (qb (g:=gb420) (o:=.cells #[.slice Ao219 t414.length co219] 43 (0,0)) (yF BK420) hb);replace BK421:=am (qb (g:=gb421) (o:=.cells #[.slice Ao225 t417.length co225] 43 (0,0)) (yF BK421) hb);replace BK426:=am (qb (g:=gb426) (o:=.cells #[.slice Ao232 t422.length co232] 43 (0,0)) (yF BK426) hb);replace BK431:=am (qb (g:=gb431) (o:=.cells #[.slice Ao243 t427.length co243] 43 (0,0)) (yF BK431) hb);replace BK437:=am (qb (g:=gb437) (o:=.cells #[.slice Ao283 t433.length co283] 43 (0,0)) (yF BK437) hb);replace BK442:=am (qb (g:=gb442) (o:=.cells #[.slice Ao300 t438.length co300] 43 (0,0)) (yF BK442) hb);replace BK447:=am (qb (g:=gb447) (o:=.cells #[.slice Ao313 t443.length co313] 43 (0,0)) (by refine sB ?_;refine blk_put (cs:=#[.slice none 0 0]) ?_ 0 _ rfl;exact yB BK447) hb);replace HB:=yH HB hb;clear hb ho0)|((with_reducible refine gD 37 ?_);(try (refine gate_guard D35 ?_;dsimp only));refine gB (cs:=#[.slice none 0 0]) 43 ?_;intro gb437 hg w282 hbox hb;replace HO_365000:=oN HO_365000 hg hb;replace HO_370000:=oN HO_370000 hg hb;replace HO_375000:=oN HO_375000 hg hb;replace HO_421000:=oN HO_421000 hg hb;replace HO_422000:=oN HO_422000 hg hb;replace HO_427000:=oN HO_427000 hg hb;replace HO_432000:=oN HO_432000 hg hb;replace HO435:=oN HO435 hg hb;have BK437:=am (hbox);have GW437:=ye HB hg;replace HB:=yH HB hb;have NB364_437:=yl BK364 hg;have NB437_364:=yg BK364 hg;replace BK364:=yb BK364 hb;have NB369_437:=yl BK369 hg;have NB437_369:=yg BK369 hg;replace BK369:=yb BK369 hb;have NB374_437:=yl BK374 hg;have NB437_374:=yg BK374 hg;replace BK374:=yb BK374 hb;have NB420_437:=yl BK420 hg;have NB437_420:=yg BK420 hg;replace BK420:=yb BK420 hb;have NB421_437:=yl BK421 hg;have NB437_421:=yg BK421 hg;replace BK421:=yb BK421 hb;have NB426_437:=yl BK426 hg;have NB437_426:=yg BK426 hg;replace BK426:=yb BK426 hb;have NB431_437:=yl BK431 hg;have NB437_431:=yg BK431 hg;replace BK431:=yb BK431 hb;have GE437:=GW437;clear hb hbox hg;obtain ⟨Ao283,co283,eo283⟩:=Kd.N_slice HO435.out;subst eo283;have hnb284:=NB437_364.out;have hnc284:=NB364_437.out;have hnb285:=NB437_369.out;have hnc285:=NB369_437.out;have hnb286:=NB437_374.out;have hnc286:=NB374_437.out;have hnb287:=NB437_420.out;have hnc287:=NB420_437.out;have hnb288:=NB437_421.out;have hnc288:=NB421_437.out;have hnb289:=NB437_426.out;have hnc289:=NB426_437.out;have hnb290:=NB437_431.out;have hnc290:=NB431_437.out;obtain ⟨hcz291_0,hfz291_0⟩:=yk1 BK437;have hnb292:=NB421_364.out;have hnc292:=NB364_421.out;have hnb293:=NB421_369.out;have hnc293:=NB369_421.out;have hnb294:=NB421_374.out;have hnc294:=NB374_421.out;have hnb295:=NB421_426.out;have hnc295:=NB426_421.out;have hnb296:=NB421_431.out;have hnc296:=NB431_421.out;obtain ⟨hcz297_0,hfz297_0⟩:=yk1 BK421)|(go_at_call 78;have hz_:=w281;clear hz_;(with_reducible refine (impl_Transposed.calls kj214 _ _ t417 t438 t441 _ (by refine (Kd.N_reads' (e:=57) (base:=w.heap.size) (ok:=fun k_=>(((some k_ ≠ (.slice Ao12 t358.length co12:Value).ownBlock∧(some k_ ≠ (.slice Ao16 t365.length co16:Value).ownBlock∧(some k_ ≠ (.slice Ao22 t370.length co22:Value).ownBlock∧(some k_ ≠ (.slice Ao219 t414.length co219:Value).ownBlock∧(some k_ ≠ (.slice Ao232 t422.length co232:Value).ownBlock∧(some k_ ≠ (.slice Ao243 t427.length co243:Value).ownBlock∧(k_ ≠ gb364∧(k_ ≠ gb369∧(k_ ≠ gb374∧(k_ ≠ gb420∧(k_ ≠ gb421∧(k_ ≠ gb426∧k_ ≠ gb431))))))))))))∧some k_ ≠ (.slice Ao283 t433.length co283:Value).ownBlock)∧k_ ≠ gb437)) (n:=t417.length) (c:=co225) ?_).2.2;exact D54) (by exact (Kd.N_reads' HO_422000.out).2.1) A270.out).mono ?_);rintro e w298 ⟨v439,rfl,ho0,hb⟩;have HO440:=am (Kd.N_lower (Kd.N_mono (ok':=fun k_=>some k_ ≠ (.slice Ao12 t358.length co12:Value).ownBlock∧some k_ ≠ (.slice Ao16 t365.length co16:Value).ownBlock∧some k_ ≠ (.slice Ao22 t370.length co22:Value).ownBlock∧some k_ ≠ (.slice Ao219 t414.length co219:Value).ownBlock∧some k_ ≠ (.slice Ao225 t417.length co225:Value).ownBlock∧some k_ ≠ (.slice Ao232 t422.length co232:Value).ownBlock∧some k_ ≠ (.slice Ao243 t427.length co243:Value).ownBlock∧some k_ ≠ (.slice Ao283 t433.length co283:Value).ownBlock∧k_ ≠ gb364∧k_ ≠ gb369∧k_ ≠ gb374∧k_ ≠ gb420∧k_ ≠ gb421∧k_ ≠ gb426∧k_ ≠ gb431∧k_ ≠ gb437) (Kd.S_N (Kd.S_bound ho0)) (fun k_ hk_=>⟨(Kd.fresh' (Kd.N_lt D106) k_ hk_.2.1),(Kd.fresh' (Kd.N_lt D105) k_ hk_.2.1),(Kd.fresh' (Kd.N_lt D104) k_ hk_.2.1),(Kd.fresh' (Kd.N_lt D103) k_ hk_.2.1),(Kd.fresh' (Kd.N_lt D54) k_ hk_.2.1),(Kd.fresh' (Kd.N_lt D102) k_ hk_.2.1),(Kd.fresh' (Kd.N_lt D101) k_ hk_.2.1),(Kd.fresh' (Kd.N_lt D120) k_ hk_.2.1),(Kd.freshB (g:=gb364) (o:=.cells #[.slice Ao12 t358.length co12] 43 (0,0)) (yF BK364) k_ hk_.2.1),(Kd.freshB (g:=gb369) (o:=.cells #[.slice Ao16 t365.length co16] 43 (0,0)) (yF BK369) k_ hk_.2.1),(Kd.freshB (g:=gb374) (o:=.cells #[.slice Ao22 t370.length co22] 43 (0,0)) (yF BK374) k_ hk_.2.1),(Kd.freshB (g:=gb420) (o:=.cells #[.slice Ao219 t414.length co219] 43 (0,0)) (yF BK420) k_ hk_.2.1),(Kd.freshB (g:=gb421) (o:=.cells #[.slice Ao225 t417.length co225] 43 (0,0)) (yF BK421) k_ hk_.2.1),(Kd.freshB (g:=gb426) (o:=.cells #[.slice Ao232 t422.length co232] 43 (0,0)) (yF BK426) k_ hk_.2.1),(Kd.freshB (g:=gb431) (o:=.cells #[.slice Ao243 t427.length co243] 43 (0,0)) (yF BK431) k_ hk_.2.1),(Kd.freshB (g:=gb437) (o:=.cells #[.slice Ao283 t433.length co283] 43 (0,0)) (by refine sB ?_;refine blk_put (cs:=#[.slice none 0 0]) ?_ 0 _ rfl;exact yB BK437) k_ hk_.2.1)⟩)) (pz (yW HB)));replace HO_365000:=am (Kd.N_elder' D106 D5 hb);replace HO_370000:=am (Kd.N_elder' D105 D5 hb);replace HO_375000:=am (Kd.N_elder' D104 D5 hb);replace HO_421000:=am (Kd.N_elder' D103 D5 hb);replace HO_422000:=am (Kd.N_elder' D54 D5 hb);replace HO_427000:=am (Kd.N_elder' D102 D5 hb);replace HO_432000:=am (Kd.N_elder' D101 D5 hb);replace HO435:=am (Kd.N_elder' D120 D5 hb);replace BK364:=am (qb (g:=gb364) (o:=.cells #[.slice Ao12 t358.length co12] 43 (0,0)) (yF BK364) hb);replace BK369:=am (qb (g:=gb369) (o:=.cells #[.slice Ao16 t365.length co16] 43 (0,0)) (yF BK369) hb);replace BK374:=am (qb (g:=gb374) (o:=.cells #[.slice Ao22 t370.length co22] 43 (0,0)) (yF BK374) hb);replace BK420:=am (qb (g:=gb420) (o:=.cells #[.slice Ao219 t414.length co219] 43 (0,0)) (yF BK420) hb);replace BK421:=am (qb (g:=gb421) (o:=.cells #[.slice Ao225 t417.length co225] 43 (0,0)) (yF BK421) hb);replace BK426:=am (qb (g:=gb426) (o:=.cells #[.slice Ao232 t422.length co232] 43 (0,0)) (yF BK426) hb);replace BK431:=am (qb (g:=gb431) (o:=.cells #[.slice Ao243 t427.length co243] 43 (0,0)) (yF BK431) hb);replace BK437:=am (qb (g:=gb437) (o:=.cells #[.slice Ao283 t433.length co283] 43 (0,0)) (by refine sB ?_;refine blk_put (cs:=#[.slice none 0 0]) ?_ 0 _ rfl;exact yB BK437) hb);replace HB:=yH HB hb;clear hb ho0)|((with_reducible refine gD 39 ?_);(try (refine gate_guard D35 ?_;dsimp only));refine gB (cs:=#[.slice none 0 0]) 43 ?_;intro gb442 hg w299 hbox hb;replace HO_365000:=oN HO_365000 hg hb;replace HO_370000:=oN HO_370000 hg hb;replace HO_375000:=oN HO_375000 hg hb;replace HO_421000:=oN HO_421000 hg hb;replace HO_422000:=oN HO_422000 hg hb;replace HO_427000:=oN HO_427000 hg hb;replace HO_432000:=oN HO_432000 hg hb;replace HO435:=oN HO435 hg hb;replace HO440:=oN HO440 hg hb;have BK442:=am (hbox);have GW442:=ye HB hg;replace HB:=yH HB hb;have NB364_442:=yl BK364 hg;have NB442_364:=yg BK364 hg;replace BK364:=yb BK364 hb;have NB369_442:=yl BK369 hg;have NB442_369:=yg BK369 hg;replace BK369:=yb BK369 hb;have NB374_442:=yl BK374 hg;have NB442_374:=yg BK374 hg;replace BK374:=yb BK374 hb;have NB420_442:=yl BK420 hg;have NB442_420:=yg BK420 hg;replace BK420:=yb BK420 hb;have NB421_442:=yl BK421 hg;have NB442_421:=yg BK421 hg;replace BK421:=yb BK421 hb;have NB426_442:=yl BK426 hg;have NB442_426:=yg BK426 hg;replace BK426:=yb BK426 hb;have NB431_442:=yl BK431 hg;have NB442_431:=yg BK431 hg;replace BK431:=yb BK431 hb;have NB437_442:=yl BK437 hg;have NB442_437:=yg BK437 hg;replace BK437:=yb BK437 hb;have GE442:=GW442;clear hb hbox hg;obtain ⟨Ao300,co300,eo300⟩:=Kd.N_slice HO440.out;subst eo300;have hnb301:=NB442_364.out;have hnc301:=NB364_442.out;have hnb302:=NB442_369.out;have hnc302:=NB369_442.out;have hnb303:=NB442_374.out;have hnc303:=NB374_442.out;have hnb304:=NB442_420.out;have hnc304:=NB420_442.out;have hnb305:=NB442_421.out;have hnc305:=NB421_442.out;have hnb306:=NB442_426.out;have hnc306:=NB426_442.out;have hnb307:=NB442_431.out;have hnc307:=NB431_442.out;have hnb308:=NB442_437.out;have hnc308:=NB437_442.out;obtain ⟨hcz309_0,hfz309_0⟩:=yk1 BK442;obtain ⟨hcz310_0,hfz310_0⟩:=yk1 BK437)|(go_at_call 79;(with_reducible refine (impl_Product.calls kj214 _ _ t438 _ _ t433 t443 t446 _ (by refine (Kd.N_reads' (e:=57) (base:=w.heap.size) (ok:=fun k_=>((some k_ ≠ (.slice Ao12 t358.length co12:Value).ownBlock∧(some k_ ≠ (.slice Ao16 t365.length co16:Value).ownBlock∧(some k_ ≠ (.slice Ao22 t370.length co22:Value).ownBlock∧(some k_ ≠ (.slice Ao219 t414.length co219:Value).ownBlock∧(some k_ ≠ (.slice Ao225 t417.length co225:Value).ownBlock∧(some k_ ≠ (.slice Ao232 t422.length co232:Value).ownBlock∧(some k_ ≠ (.slice Ao243 t427.length co243:Value).ownBlock∧(some k_ ≠ (.slice Ao283 t433.length co283:Value).ownBlock∧(k_ ≠ gb364∧(k_ ≠ gb369∧(k_ ≠ gb374∧(k_ ≠ gb420∧(k_ ≠ gb421∧(k_ ≠ gb426∧(k_ ≠ gb431∧k_ ≠ gb437)))))))))))))))∧k_ ≠ gb442)) (n:=t438.length) (c:=co300) ?_).2.2;exact D57) (by exact (Kd.N_reads' HO440.out).2.1) (by refine (Kd.N_reads' (e:=57) (base:=w.heap.size) (ok:=fun k_=>((((some k_ ≠ (.slice Ao12 t358.length co12:Value).ownBlock∧(some k_ ≠ (.slice Ao16 t365.length co16:Value).ownBlock∧(some k_ ≠ (.slice Ao22 t370.length co22:Value).ownBlock∧(some k_ ≠ (.slice Ao219 t414.length co219:Value).ownBlock∧(some k_ ≠ (.slice Ao225 t417.length co225:Value).ownBlock∧(some k_ ≠ (.slice Ao232 t422.length co232:Value).ownBlock∧(some k_ ≠ (.slice Ao243 t427.length co243:Value).ownBlock∧(k_ ≠ gb364∧(k_ ≠ gb369∧(k_ ≠ gb374∧(k_ ≠ gb420∧(k_ ≠ gb421∧(k_ ≠ gb426∧k_ ≠ gb431)))))))))))))∧k_ ≠ gb437)∧some k_ ≠ (.slice Ao300 t438.length co300:Value).ownBlock)∧k_ ≠ gb442)) (n:=t433.length) (c:=co283) ?_).2.2;exact D58) (by exact (Kd.N_reads' HO435.out).2.1) A271.out).mono ?_);rintro e w311 ⟨v444,rfl,ho0,hb⟩;have HO445:=am (Kd.N_lower (Kd.N_mono (ok':=fun k_=>some k_ ≠ (.slice Ao12 t358.length co12:Value).ownBlock∧some k_ ≠ (.slice Ao16 t365.length co16:Value).ownBlock∧some k_ ≠ (.slice Ao22 t370.length co22:Value).ownBlock∧some k_ ≠ (.slice Ao219 t414.length co219:Value).ownBlock∧some k_ ≠ (.slice Ao225 t417.length co225:Value).ownBlock∧some k_ ≠ (.slice Ao232 t422.length co232:Value).ownBlock∧some k_ ≠ (.slice Ao243 t427.length co243:Value).ownBlock∧some k_ ≠ (.slice Ao283 t433.length co283:Value).ownBlock∧some k_ ≠ (.slice Ao300 t438.length co300:Value).ownBlock∧k_ ≠ gb364∧k_ ≠ gb369∧k_ ≠ gb374∧k_ ≠ gb420∧k_ ≠ gb421∧k_ ≠ gb426∧k_ ≠ gb431∧k_ ≠ gb437∧k_ ≠ gb442) (Kd.S_N (Kd.S_bound ho0)) (fun k_ hk_=>⟨(Kd.fresh' (Kd.N_lt D100) k_ hk_.2.1),(Kd.fresh' (Kd.N_lt D99) k_ hk_.2.1),(Kd.fresh' (Kd.N_lt D98) k_ hk_.2.1),(Kd.fresh' (Kd.N_lt D97) k_ hk_.2.1),(Kd.fresh' (Kd.N_lt D96) k_ hk_.2.1),(Kd.fresh' (Kd.N_lt D95) k_ hk_.2.1),(Kd.fresh' (Kd.N_lt D94) k_ hk_.2.1),(Kd.fresh' (Kd.N_lt D58) k_ hk_.2.1),(Kd.fresh' (Kd.N_lt D57) k_ hk_.2.1),(Kd.freshB (g:=gb364) (o:=.cells #[.slice Ao12 t358.length co12] 43 (0,0)) (yF BK364) k_ hk_.2.1),(Kd.freshB (g:=gb369) (o:=.cells #[.slice Ao16 t365.length co16] 43 (0,0)) (yF BK369) k_ hk_.2.1),(Kd.freshB (g:=gb374) (o:=.cells #[.slice Ao22 t370.length co22] 43 (0,0)) (yF BK374) k_ hk_.2.1),(Kd.freshB (g:=gb420) (o:=.cells #[.slice Ao219 t414.length co219] 43 (0,0)) (yF BK420) k_ hk_.2.1),(Kd.freshB (g:=gb421) (o:=.cells #[.slice Ao225 t417.length co225] 43 (0,0)) (yF BK421) k_ hk_.2.1),(Kd.freshB (g:=gb426) (o:=.cells #[.slice Ao232 t422.length co232] 43 (0,0)) (yF BK426) k_ hk_.2.1),(Kd.freshB (g:=gb431) (o:=.cells #[.slice Ao243 t427.length co243] 43 (0,0)) (yF BK431) k_ hk_.2.1),(Kd.freshB (g:=gb437) (o:=.cells #[.slice Ao283 t433.length co283] 43 (0,0)) (yF BK437) k_ hk_.2.1),(Kd.freshB (g:=gb442) (o:=.cells #[.slice Ao300 t438.length co300] 43 (0,0)) (by refine sB ?_;refine blk_put (cs:=#[.slice none 0 0]) ?_ 0 _ rfl;exact yB BK442) k_ hk_.2.1)⟩)) (pz (yW HB)));replace HO_365000:=am (Kd.N_elder' D100 D5 hb);replace HO_370000:=am (Kd.N_elder' D99 D5 hb);replace HO_375000:=am (Kd.N_elder' D98 D5 hb);replace HO_421000:=am (Kd.N_elder' D97 D5 hb);replace HO_422000:=am (Kd.N_elder' D96 D5 hb);replace HO_427000:=am (Kd.N_elder' D95 D5 hb);replace HO_432000:=am (Kd.N_elder' D94 D5 hb);replace HO435:=am (Kd.N_elder' D58 D5 hb);replace HO440:=am (Kd.N_elder' D57 D5 hb);replace BK364:=am (qb (g:=gb364) (o:=.cells #[.slice Ao12 t358.length co12] 43 (0,0)) (yF BK364) hb);replace BK369:=am (qb (g:=gb369) (o:=.cells #[.slice Ao16 t365.length co16] 43 (0,0)) (yF BK369) hb);replace BK374:=am (qb (g:=gb374) (o:=.cells #[.slice Ao22 t370.length co22] 43 (0,0)) (yF BK374) hb);replace BK420:=am (qb (g:=gb420) (o:=.cells #[.slice Ao219 t414.length co219] 43 (0,0)) (yF BK420) hb);replace BK421:=am (qb (g:=gb421) (o:=.cells #[.slice Ao225 t417.length co225] 43 (0,0)) (yF BK421) hb);replace BK426:=am (qb (g:=gb426) (o:=.cells #[.slice Ao232 t422.length co232] 43 (0,0)) (yF BK426) hb);replace BK431:=am (qb (g:=gb431) (o:=.cells #[.slice Ao243 t427.length co243] 43 (0,0)) (yF BK431) hb);replace BK437:=am (qb (g:=gb437) (o:=.cells #[.slice Ao283 t433.length co283] 43 (0,0)) (yF BK437) hb);replace BK442:=am (qb (g:=gb442) (o:=.cells #[.slice Ao300 t438.length co300] 43 (0,0)) (by refine sB ?_;refine blk_put (cs:=#[.slice none 0 0]) ?_ 0 _ rfl;exact yB BK442) hb);replace HB:=yH HB hb;clear hb ho0)|((with_reducible refine gD 41 ?_);(try (refine gate_guard D35 ?_;dsimp only));refine gB (cs:=#[.slice none 0 0]) 43 ?_;intro gb447 hg w312 hbox hb;replace HO_365000:=oN HO_365000 hg hb;replace HO_370000:=oN HO_370000 hg hb;replace HO_375000:=oN HO_375000 hg hb;replace HO_421000:=oN HO_421000 hg hb;replace HO_422000:=oN HO_422000 hg hb;replace HO_427000:=oN HO_427000 hg hb;replace HO_432000:=oN HO_432000 hg hb;replace HO435:=oN HO435 hg hb;replace HO440:=oN HO440 hg hb;replace HO445:=oN HO445 hg hb;have BK447:=am (hbox);have GW447:=ye HB hg;replace HB:=yH HB hb;have NB364_447:=yl BK364 hg;have NB447_364:=yg BK364 hg;replace BK364:=yb BK364 hb;have NB369_447:=yl BK369 hg;have NB447_369:=yg BK369 hg;replace BK369:=yb BK369 hb;have NB374_447:=yl BK374 hg;have NB447_374:=yg BK374 hg;replace BK374:=yb BK374 hb;have NB420_447:=yl BK420 hg;have NB447_420:=yg BK420 hg;replace BK420:=yb BK420 hb;have NB421_447:=yl BK421 hg;have NB447_421:=yg BK421 hg;replace BK421:=yb BK421 hb;have NB426_447:=yl BK426 hg;have NB447_426:=yg BK426 hg;replace BK426:=yb BK426 hb;have NB431_447:=yl BK431 hg;have NB447_431:=yg BK431 hg;replace BK431:=yb BK431 hb;have NB437_447:=yl BK437 hg;have NB447_437:=yg BK437 hg;replace BK437:=yb BK437 hb;have NB442_447:=yl BK442 hg;have NB447_442:=yg BK442 hg;replace BK442:=yb BK442 hb;have GE447:=GW447;clear hb hbox hg;obtain ⟨Ao313,co313,eo313⟩:=Kd.N_slice HO445.out;subst eo313;have hnb314:=NB447_364.out;have hnc314:=NB364_447.out;have hnb315:=NB447_369.out;have hnc315:=NB369_447.out;have hnb316:=NB447_374.out;have hnc316:=NB374_447.out;have hnb317:=NB447_420.out;have hnc317:=NB420_447.out;have hnb318:=NB447_421.out;have hnc318:=NB421_447.out;have hnb319:=NB447_426.out;have hnc319:=NB426_447.out;have hnb320:=NB447_431.out;have hnc320:=NB431_447.out;have hnb321:=NB447_437.out;have hnc321:=NB437_447.out;have hnb322:=NB447_442.out;have hnc322:=NB442_447.out;obtain ⟨hcz323_0,hfz323_0⟩:=yk1 BK447;have hnb324:=NB426_364.out;have hnc324:=NB364_426.out;have hnb325:=NB426_369.out;have hnc325:=NB369_426.out;have hnb326:=NB426_374.out;have hnc326:=NB374_426.out;have hnb327:=NB426_431.out;have hnc327:=NB431_426.out;obtain ⟨hcz328_0,hfz328_0⟩:=yk1 BK426)|(go_at_call 78;(with_reducible refine (impl_Transposed.calls kj214 _ _ t414 t433 t436 _ (yc (Kd.N_reads' HO_421000.out).2.2) (Kd.N_reads' HO_421000.out).2.1 A269.out).mono ?_);rintro e w281 ⟨v434,rfl,ho0,hb⟩;have HO435:=am (Kd.N_lower (Kd.N_mono (ok':=fun k_=>some k_ ≠ (.slice Ao12 t358.length co12:Value).ownBlock∧some k_ ≠ (.slice Ao16 t365.length co16:Value).ownBlock∧some k_ ≠ (.slice Ao22 t370.length co22:Value).ownBlock∧some k_ ≠ (.slice Ao219 t414.length co219:Value).ownBlock∧some k_ ≠ (.slice Ao225 t417.length co225:Value).ownBlock∧some k_ ≠ (.slice Ao232 t422.length co232:Value).ownBlock∧some k_ ≠ (.slice Ao243 t427.length co243:Value).ownBlock∧k_ ≠ gb364∧k_ ≠ gb369∧k_ ≠ gb374∧k_ ≠ gb420∧k_ ≠ gb421∧k_ ≠ gb426∧k_ ≠ gb431) (Kd.S_N (Kd.S_bound ho0)) (fun k_ hk_=>⟨(Kd.fresh' (Kd.N_lt (yN HO_365000)) k_ hk_.2.1),(Kd.fresh' (Kd.N_lt (yN HO_370000)) k_ hk_.2.1),(Kd.fresh' (Kd.N_lt (yN HO_375000)) k_ hk_.2.1),(Kd.fresh' (Kd.N_lt (yN HO_421000)) k_ hk_.2.1),(Kd.fresh' (Kd.N_lt (yN HO_422000)) k_ hk_.2.1),(Kd.fresh' (Kd.N_lt (yN HO_427000)) k_ hk_.2.1),(Kd.fresh' (Kd.N_lt (yN HO_432000)) k_ hk_.2.1),(yz BK364 k_ hk_.2.1),(yz BK369 k_ hk_.2.1),(yz BK374 k_ hk_.2.1),(yz BK420 k_ hk_.2.1),(yz BK421 k_ hk_.2.1),(yz BK426 k_ hk_.2.1),(yz BK431 k_ hk_.2.1)⟩)) (pz (yW HB)));replace HO_365000:=eN HO_365000 D5 hb;replace HO_370000:=eN HO_370000 D5 hb;replace HO_375000:=eN HO_375000 D5 hb;replace HO_421000:=eN HO_421000 D5 hb;replace HO_422000:=eN HO_422000 D5 hb;replace HO_427000:=eN HO_427000 D5 hb;replace HO_432000:=eN HO_432000 D5 hb;replace BK364:=yb BK364 hb;replace BK369:=yb BK369 hb;replace BK374:=yb BK374 hb;replace BK420:=yb BK420 hb;replace BK421:=yb BK421 hb;replace BK426:=yb BK426 hb;replace BK431:=yb BK431 hb;replace HB:=yH HB hb;clear hb ho0)|((with_reducible refine gD 43 ?_);(try (refine gate_guard D35 ?_;dsimp only));refine gB (cs:=#[.slice none 0 0]) 43 ?_;intro gb452 hg w330 hbox hb;replace HO_365000:=oN HO_365000 hg hb;replace HO_370000:=oN HO_370000 hg hb;replace HO_375000:=oN HO_375000 hg hb;replace HO_421000:=oN HO_421000 hg hb;replace HO_422000:=oN HO_422000 hg hb;replace HO_427000:=oN HO_427000 hg hb;replace HO_432000:=oN HO_432000 hg hb;replace HO435:=oN HO435 hg hb;replace HO440:=oN HO440 hg hb;replace HO445:=oN HO445 hg hb;replace HO450:=oN HO450 hg hb;have BK452:=am (hbox);have GW452:=ye HB hg;replace HB:=yH HB hb;have NB364_452:=yl BK364 hg;have NB452_364:=yg BK364 hg;replace BK364:=yb BK364 hb;have NB369_452:=yl BK369 hg;have NB452_369:=yg BK369 hg;replace BK369:=yb BK369 hb;have NB374_452:=yl BK374 hg;have NB452_374:=yg BK374 hg;replace BK374:=yb BK374 hb;have NB420_452:=yl BK420 hg;have NB452_420:=yg BK420 hg;replace BK420:=yb BK420 hb;have NB421_452:=yl BK421 hg;have NB452_421:=yg BK421 hg;replace BK421:=yb BK421 hb;have NB426_452:=yl BK426 hg;have NB452_426:=yg BK426 hg;replace BK426:=yb BK426 hb;have NB431_452:=yl BK431 hg;have NB452_431:=yg BK431 hg;replace BK431:=yb BK431 hb;have NB437_452:=yl BK437 hg;have NB452_437:=yg BK437 hg;replace BK437:=yb BK437 hb;have NB442_452:=yl BK442 hg;have NB452_442:=yg BK442 hg;replace BK442:=yb BK442 hb;have NB447_452:=yl BK447 hg;have NB452_447:=yg BK447 hg;replace BK447:=yb BK447 hb;have GE452:=GW452;clear hb hbox hg;obtain ⟨Ao331,co331,eo331⟩:=Kd.N_slice HO450.out;subst eo331;have hnb332:=NB452_364.out;have hnc332:=NB364_452.out;have hnb333:=NB452_369.out;have hnc333:=NB369_452.out;have hnb334:=NB452_374.out;have hnc334:=NB374_452.out;have hnb335:=NB452_420.out;have hnc335:=NB420_452.out;have hnb336:=NB452_421.out;have hnc336:=NB421_452.out;have hnb337:=NB452_426.out;have hnc337:=NB426_452.out;have hnb338:=NB452_431.out;have hnc338:=NB431_452.out;have hnb339:=NB452_437.out;have hnc339:=NB437_452.out;have hnb340:=NB452_442.out;have hnc340:=NB442_452.out;have hnb341:=NB452_447.out;have hnc341:=NB447_452.out;obtain ⟨hcz342_0,hfz342_0⟩:=yk1 BK452))
          (try simp only [Act.put,q1,q2,q3])
          go_cut [4] (fun v4 wc=>∃ (kq:Nat) (x4_272:Bool),v4 = .bool x4_272∧Aside0 (laws_FnMatrices.j8 kq x4_272=some r)∧Aside0 (kq≤kj214)∧Aside0 (Kd.N (Kd.slice 5 (Kd.int .u8)) 57 wc w.heap.size (fun k_=>some k_ ≠ ((.slice Ao16 t365.length co16):Value).ownBlock∧some k_ ≠ ((.slice Ao22 t370.length co22):Value).ownBlock∧some k_ ≠ ((.slice Ao219 t414.length co219):Value).ownBlock∧some k_ ≠ ((.slice Ao225 t417.length co225):Value).ownBlock∧some k_ ≠ ((.slice Ao232 t422.length co232):Value).ownBlock∧some k_ ≠ ((.slice Ao243 t427.length co243):Value).ownBlock∧some k_ ≠ ((.slice Ao283 t433.length co283):Value).ownBlock∧some k_ ≠ ((.slice Ao300 t438.length co300):Value).ownBlock∧some k_ ≠ ((.slice Ao313 t443.length co313):Value).ownBlock∧some k_ ≠ ((.slice Ao331 t448.length co331):Value).ownBlock∧k_ ≠ gb364∧k_ ≠ gb369∧k_ ≠ gb374∧k_ ≠ gb420∧k_ ≠ gb421∧k_ ≠ gb426∧k_ ≠ gb431∧k_ ≠ gb437∧k_ ≠ gb442∧k_ ≠ gb447∧k_ ≠ gb452) (.slice Ao12 t358.length co12) t358)∧Aside0 (Kd.N (Kd.slice 5 (Kd.int .u8)) 57 wc w.heap.size (fun k_=>some k_ ≠ ((.slice Ao12 t358.length co12):Value).ownBlock∧some k_ ≠ ((.slice Ao22 t370.length co22):Value).ownBlock∧some k_ ≠ ((.slice Ao219 t414.length co219):Value).ownBlock∧some k_ ≠ ((.slice Ao225 t417.length co225):Value).ownBlock∧some k_ ≠ ((.slice Ao232 t422.length co232):Value).ownBlock∧some k_ ≠ ((.slice Ao243 t427.length co243):Value).ownBlock∧some k_ ≠ ((.slice Ao283 t433.length co283):Value).ownBlock∧some k_ ≠ ((.slice Ao300 t438.length co300):Value).ownBlock∧some k_ ≠ ((.slice Ao313 t443.length co313):Value).ownBlock∧some k_ ≠ ((.slice Ao331 t448.length co331):Value).ownBlock∧k_ ≠ gb364∧k_ ≠ gb369∧k_ ≠ gb374∧k_ ≠ gb420∧k_ ≠ gb421∧k_ ≠ gb426∧k_ ≠ gb431∧k_ ≠ gb437∧k_ ≠ gb442∧k_ ≠ gb447∧k_ ≠ gb452) (.slice Ao16 t365.length co16) t365)∧Aside0 (Kd.N (Kd.slice 5 (Kd.int .u8)) 57 wc w.heap.size (fun k_=>some k_ ≠ ((.slice Ao12 t358.length co12):Value).ownBlock∧some k_ ≠ ((.slice Ao16 t365.length co16):Value).ownBlock∧some k_ ≠ ((.slice Ao219 t414.length co219):Value).ownBlock∧some k_ ≠ ((.slice Ao225 t417.length co225):Value).ownBlock∧some k_ ≠ ((.slice Ao232 t422.length co232):Value).ownBlock∧some k_ ≠ ((.slice Ao243 t427.length co243):Value).ownBlock∧some k_ ≠ ((.slice Ao283 t433.length co283):Value).ownBlock∧some k_ ≠ ((.slice Ao300 t438.length co300):Value).ownBlock∧some k_ ≠ ((.slice Ao313 t443.length co313):Value).ownBlock∧some k_ ≠ ((.slice Ao331 t448.length co331):Value).ownBlock∧k_ ≠ gb364∧k_ ≠ gb369∧k_ ≠ gb374∧k_ ≠ gb420∧k_ ≠ gb421∧k_ ≠ gb426∧k_ ≠ gb431∧k_ ≠ gb437∧k_ ≠ gb442∧k_ ≠ gb447∧k_ ≠ gb452) (.slice Ao22 t370.length co22) t370)∧Aside0 (Kd.N (Kd.slice 5 (Kd.int .u8)) 57 wc w.heap.size (fun k_=>some k_ ≠ ((.slice Ao12 t358.length co12):Value).ownBlock∧some k_ ≠ ((.slice Ao16 t365.length co16):Value).ownBlock∧some k_ ≠ ((.slice Ao22 t370.length co22):Value).ownBlock∧some k_ ≠ ((.slice Ao225 t417.length co225):Value).ownBlock∧some k_ ≠ ((.slice Ao232 t422.length co232):Value).ownBlock∧some k_ ≠ ((.slice Ao243 t427.length co243):Value).ownBlock∧some k_ ≠ ((.slice Ao283 t433.length co283):Value).ownBlock∧some k_ ≠ ((.slice Ao300 t438.length co300):Value).ownBlock∧some k_ ≠ ((.slice Ao313 t443.length co313):Value).ownBlock∧some k_ ≠ ((.slice Ao331 t448.length co331):Value).ownBlock∧k_ ≠ gb364∧k_ ≠ gb369∧k_ ≠ gb374∧k_ ≠ gb420∧k_ ≠ gb421∧k_ ≠ gb426∧k_ ≠ gb431∧k_ ≠ gb437∧k_ ≠ gb442∧k_ ≠ gb447∧k_ ≠ gb452) (.slice Ao219 t414.length co219) t414)∧Aside0 (Kd.N (Kd.slice 5 (Kd.int .u8)) 57 wc w.heap.size (fun k_=>some k_ ≠ ((.slice Ao12 t358.length co12):Value).ownBlock∧some k_ ≠ ((.slice Ao16 t365.length co16):Value).ownBlock∧some k_ ≠ ((.slice Ao22 t370.length co22):Value).ownBlock∧some k_ ≠ ((.slice Ao219 t414.length co219):Value).ownBlock∧some k_ ≠ ((.slice Ao232 t422.length co232):Value).ownBlock∧some k_ ≠ ((.slice Ao243 t427.length co243):Value).ownBlock∧some k_ ≠ ((.slice Ao283 t433.length co283):Value).ownBlock∧some k_ ≠ ((.slice Ao300 t438.length co300):Value).ownBlock∧some k_ ≠ ((.slice Ao313 t443.length co313):Value).ownBlock∧some k_ ≠ ((.slice Ao331 t448.length co331):Value).ownBlock∧k_ ≠ gb364∧k_ ≠ gb369∧k_ ≠ gb374∧k_ ≠ gb420∧k_ ≠ gb421∧k_ ≠ gb426∧k_ ≠ gb431∧k_ ≠ gb437∧k_ ≠ gb442∧k_ ≠ gb447∧k_ ≠ gb452) (.slice Ao225 t417.length co225) t417)∧Aside0 (Kd.N (Kd.slice 5 (Kd.int .u8)) 57 wc w.heap.size (fun k_=>some k_ ≠ ((.slice Ao12 t358.length co12):Value).ownBlock∧some k_ ≠ ((.slice Ao16 t365.length co16):Value).ownBlock∧some k_ ≠ ((.slice Ao22 t370.length co22):Value).ownBlock∧some k_ ≠ ((.slice Ao219 t414.length co219):Value).ownBlock∧some k_ ≠ ((.slice Ao225 t417.length co225):Value).ownBlock∧some k_ ≠ ((.slice Ao243 t427.length co243):Value).ownBlock∧some k_ ≠ ((.slice Ao283 t433.length co283):Value).ownBlock∧some k_ ≠ ((.slice Ao300 t438.length co300):Value).ownBlock∧some k_ ≠ ((.slice Ao313 t443.length co313):Value).ownBlock∧some k_ ≠ ((.slice Ao331 t448.length co331):Value).ownBlock∧k_ ≠ gb364∧k_ ≠ gb369∧k_ ≠ gb374∧k_ ≠ gb420∧k_ ≠ gb421∧k_ ≠ gb426∧k_ ≠ gb431∧k_ ≠ gb437∧k_ ≠ gb442∧k_ ≠ gb447∧k_ ≠ gb452) (.slice Ao232 t422.length co232) t422)∧Aside0 (Kd.N (Kd.slice 5 (Kd.int .u8)) 57 wc w.heap.size (fun k_=>some k_ ≠ ((.slice Ao12 t358.length co12):Value).ownBlock∧some k_ ≠ ((.slice Ao16 t365.length co16):Value).ownBlock∧some k_ ≠ ((.slice Ao22 t370.length co22):Value).ownBlock∧some k_ ≠ ((.slice Ao219 t414.length co219):Value).ownBlock∧some k_ ≠ ((.slice Ao225 t417.length co225):Value).ownBlock∧some k_ ≠ ((.slice Ao232 t422.length co232):Value).ownBlock∧some k_ ≠ ((.slice Ao283 t433.length co283):Value).ownBlock∧some k_ ≠ ((.slice Ao300 t438.length co300):Value).ownBlock∧some k_ ≠ ((.slice Ao313 t443.length co313):Value).ownBlock∧some k_ ≠ ((.slice Ao331 t448.length co331):Value).ownBlock∧k_ ≠ gb364∧k_ ≠ gb369∧k_ ≠ gb374∧k_ ≠ gb420∧k_ ≠ gb421∧k_ ≠ gb426∧k_ ≠ gb431∧k_ ≠ gb437∧k_ ≠ gb442∧k_ ≠ gb447∧k_ ≠ gb452) (.slice Ao243 t427.length co243) t427)∧Aside0 (Kd.N (Kd.slice 5 (Kd.int .u8)) 57 wc w.heap.size (fun k_=>some k_ ≠ ((.slice Ao12 t358.length co12):Value).ownBlock∧some k_ ≠ ((.slice Ao16 t365.length co16):Value).ownBlock∧some k_ ≠ ((.slice Ao22 t370.length co22):Value).ownBlock∧some k_ ≠ ((.slice Ao219 t414.length co219):Value).ownBlock∧some k_ ≠ ((.slice Ao225 t417.length co225):Value).ownBlock∧some k_ ≠ ((.slice Ao232 t422.length co232):Value).ownBlock∧some k_ ≠ ((.slice Ao243 t427.length co243):Value).ownBlock∧some k_ ≠ ((.slice Ao300 t438.length co300):Value).ownBlock∧some k_ ≠ ((.slice Ao313 t443.length co313):Value).ownBlock∧some k_ ≠ ((.slice Ao331 t448.length co331):Value).ownBlock∧k_ ≠ gb364∧k_ ≠ gb369∧k_ ≠ gb374∧k_ ≠ gb420∧k_ ≠ gb421∧k_ ≠ gb426∧k_ ≠ gb431∧k_ ≠ gb437∧k_ ≠ gb442∧k_ ≠ gb447∧k_ ≠ gb452) (.slice Ao283 t433.length co283) t433)∧Aside0 (Kd.N (Kd.slice 5 (Kd.int .u8)) 57 wc w.heap.size (fun k_=>some k_ ≠ ((.slice Ao12 t358.length co12):Value).ownBlock∧some k_ ≠ ((.slice Ao16 t365.length co16):Value).ownBlock∧some k_ ≠ ((.slice Ao22 t370.length co22):Value).ownBlock∧some k_ ≠ ((.slice Ao219 t414.length co219):Value).ownBlock∧some k_ ≠ ((.slice Ao225 t417.length co225):Value).ownBlock∧some k_ ≠ ((.slice Ao232 t422.length co232):Value).ownBlock∧some k_ ≠ ((.slice Ao243 t427.length co243):Value).ownBlock∧some k_ ≠ ((.slice Ao283 t433.length co283):Value).ownBlock∧some k_ ≠ ((.slice Ao313 t443.length co313):Value).ownBlock∧some k_ ≠ ((.slice Ao331 t448.length co331):Value).ownBlock∧k_ ≠ gb364∧k_ ≠ gb369∧k_ ≠ gb374∧k_ ≠ gb420∧k_ ≠ gb421∧k_ ≠ gb426∧k_ ≠ gb431∧k_ ≠ gb437∧k_ ≠ gb442∧k_ ≠ gb447∧k_ ≠ gb452) (.slice Ao300 t438.length co300) t438)∧Aside0 (Kd.N (Kd.slice 5 (Kd.int .u8)) 57 wc w.heap.size (fun k_=>some k_ ≠ ((.slice Ao12 t358.length co12):Value).ownBlock∧some k_ ≠ ((.slice Ao16 t365.length co16):Value).ownBlock∧some k_ ≠ ((.slice Ao22 t370.length co22):Value).ownBlock∧some k_ ≠ ((.slice Ao219 t414.length co219):Value).ownBlock∧some k_ ≠ ((.slice Ao225 t417.length co225):Value).ownBlock∧some k_ ≠ ((.slice Ao232 t422.length co232):Value).ownBlock∧some k_ ≠ ((.slice Ao243 t427.length co243):Value).ownBlock∧some k_ ≠ ((.slice Ao283 t433.length co283):Value).ownBlock∧some k_ ≠ ((.slice Ao300 t438.length co300):Value).ownBlock∧some k_ ≠ ((.slice Ao331 t448.length co331):Value).ownBlock∧k_ ≠ gb364∧k_ ≠ gb369∧k_ ≠ gb374∧k_ ≠ gb420∧k_ ≠ gb421∧k_ ≠ gb426∧k_ ≠ gb431∧k_ ≠ gb437∧k_ ≠ gb442∧k_ ≠ gb447∧k_ ≠ gb452) (.slice Ao313 t443.length co313) t443)∧Aside0 (Kd.N (Kd.slice 5 (Kd.int .u8)) 57 wc w.heap.size (fun k_=>some k_ ≠ ((.slice Ao12 t358.length co12):Value).ownBlock∧some k_ ≠ ((.slice Ao16 t365.length co16):Value).ownBlock∧some k_ ≠ ((.slice Ao22 t370.length co22):Value).ownBlock∧some k_ ≠ ((.slice Ao219 t414.length co219):Value).ownBlock∧some k_ ≠ ((.slice Ao225 t417.length co225):Value).ownBlock∧some k_ ≠ ((.slice Ao232 t422.length co232):Value).ownBlock∧some k_ ≠ ((.slice Ao243 t427.length co243):Value).ownBlock∧some k_ ≠ ((.slice Ao283 t433.length co283):Value).ownBlock∧some k_ ≠ ((.slice Ao300 t438.length co300):Value).ownBlock∧some k_ ≠ ((.slice Ao313 t443.length co313):Value).ownBlock∧k_ ≠ gb364∧k_ ≠ gb369∧k_ ≠ gb374∧k_ ≠ gb420∧k_ ≠ gb421∧k_ ≠ gb426∧k_ ≠ gb431∧k_ ≠ gb437∧k_ ≠ gb442∧k_ ≠ gb447∧k_ ≠ gb452) (.slice Ao331 t448.length co331) t448)∧Aside0 (wc.heap[gb364]? = some (.cells #[(.slice Ao12 t358.length co12)] 43 (0,0)))∧Aside0 (wc.heap[gb369]? = some (.cells #[(.slice Ao16 t365.length co16)] 43 (0,0)))∧Aside0 (wc.heap[gb374]? = some (.cells #[(.slice Ao22 t370.length co22)] 43 (0,0)))∧Aside0 (wc.heap[gb420]? = some (.cells #[(.slice Ao219 t414.length co219)] 43 (0,0)))∧Aside0 (wc.heap[gb421]? = some (.cells #[(.slice Ao225 t417.length co225)] 43 (0,0)))∧Aside0 (wc.heap[gb426]? = some (.cells #[(.slice Ao232 t422.length co232)] 43 (0,0)))∧Aside0 (wc.heap[gb431]? = some (.cells #[(.slice Ao243 t427.length co243)] 43 (0,0)))∧Aside0 (wc.heap[gb437]? = some (.cells #[(.slice Ao283 t433.length co283)] 43 (0,0)))∧Aside0 (wc.heap[gb442]? = some (.cells #[(.slice Ao300 t438.length co300)] 43 (0,0)))∧Aside0 (wc.heap[gb447]? = some (.cells #[(.slice Ao313 t443.length co313)] 43 (0,0)))∧Aside0 (wc.heap[gb452]? = some (.cells #[(.slice Ao331 t448.length co331)] 43 (0,0)))∧Aside0 (Below w.heap.size w wc))
          case first=>as_aux_lemma=>
           have H:=HC273.out
           clear HC273
           by_cases c343:t436=true
           ·subst c343
            replace H:=yt H
            by_cases c344:t441=true
            ·subst c344
             replace H:=yt H
             by_cases c345:t446=true
             ·subst c345
              replace H:=yt H
              by_cases c346:t451=true
              ·subst c346
               replace H:=yt H
               obtain ⟨t453,A347,H⟩:=yo H
               have H':=am H
               clear H
               have hnb348:=NB447_364.out
               have hnc348:=NB364_447.out
               have hnb349:=NB447_369.out
               have hnc349:=NB369_447.out
               have hnb350:=NB447_374.out
               have hnc350:=NB374_447.out
               have hnb351:=NB447_420.out
               have hnc351:=NB420_447.out
               have hnb352:=NB447_421.out
               have hnc352:=NB421_447.out
               have hnb353:=NB447_426.out
               have hnc353:=NB426_447.out
               have hnb354:=NB447_431.out
               have hnc354:=NB431_447.out
               have hnb355:=NB447_437.out
               have hnc355:=NB437_447.out
               have hnb356:=NB447_442.out
               have hnc356:=NB442_447.out
               have hnb357:=NB447_452.out
               have hnc357:=NB452_447.out
               obtain ⟨hcz358_0,hfz358_0⟩:=yk1 BK447
               have hnb359:=NB452_364.out
               have hnc359:=NB364_452.out
               have hnb360:=NB452_369.out
               have hnc360:=NB369_452.out
               have hnb361:=NB452_374.out
               have hnc361:=NB374_452.out
               have hnb362:=NB452_420.out
               have hnc362:=NB420_452.out
               have hnb363:=NB452_421.out
               have hnc363:=NB421_452.out
               have hnb364:=NB452_426.out
               have hnc364:=NB426_452.out
               have hnb365:=NB452_431.out
               have hnc365:=NB431_452.out
               have hnb366:=NB452_437.out
               have hnc366:=NB437_452.out
               have hnb367:=NB452_442.out
               have hnc367:=NB442_452.out
               obtain ⟨hcz368_0,hfz368_0⟩:=yk1 BK452
               go_wp2_with (first|(go_at_call 76;(with_reducible refine (laws_sameMatrices.calls kj214 _ _ t443 _ _ t448 t453 _ (by refine (Kd.N_reads' (e:=57) (base:=w.heap.size) (ok:=fun k_=>((((some k_ ≠ (.slice Ao12 t358.length co12:Value).ownBlock∧(some k_ ≠ (.slice Ao16 t365.length co16:Value).ownBlock∧(some k_ ≠ (.slice Ao22 t370.length co22:Value).ownBlock∧(some k_ ≠ (.slice Ao219 t414.length co219:Value).ownBlock∧(some k_ ≠ (.slice Ao225 t417.length co225:Value).ownBlock∧(some k_ ≠ (.slice Ao232 t422.length co232:Value).ownBlock∧(some k_ ≠ (.slice Ao243 t427.length co243:Value).ownBlock∧(some k_ ≠ (.slice Ao283 t433.length co283:Value).ownBlock∧(some k_ ≠ (.slice Ao300 t438.length co300:Value).ownBlock∧(k_ ≠ gb364∧(k_ ≠ gb369∧(k_ ≠ gb374∧(k_ ≠ gb420∧(k_ ≠ gb421∧(k_ ≠ gb426∧(k_ ≠ gb431∧(k_ ≠ gb437∧k_ ≠ gb442)))))))))))))))))∧k_ ≠ gb447)∧some k_ ≠ (.slice Ao331 t448.length co331:Value).ownBlock)∧k_ ≠ gb452)) (n:=t443.length) (c:=co313) ?_).2.2;exact D116) (by exact (Kd.N_reads' HO445.out).2.1) (by refine (Kd.N_reads' (e:=57) (base:=w.heap.size) (ok:=fun k_=>((some k_ ≠ (.slice Ao12 t358.length co12:Value).ownBlock∧(some k_ ≠ (.slice Ao16 t365.length co16:Value).ownBlock∧(some k_ ≠ (.slice Ao22 t370.length co22:Value).ownBlock∧(some k_ ≠ (.slice Ao219 t414.length co219:Value).ownBlock∧(some k_ ≠ (.slice Ao225 t417.length co225:Value).ownBlock∧(some k_ ≠ (.slice Ao232 t422.length co232:Value).ownBlock∧(some k_ ≠ (.slice Ao243 t427.length co243:Value).ownBlock∧(some k_ ≠ (.slice Ao283 t433.length co283:Value).ownBlock∧(some k_ ≠ (.slice Ao300 t438.length co300:Value).ownBlock∧(some k_ ≠ (.slice Ao313 t443.length co313:Value).ownBlock∧(k_ ≠ gb364∧(k_ ≠ gb369∧(k_ ≠ gb374∧(k_ ≠ gb420∧(k_ ≠ gb421∧(k_ ≠ gb426∧(k_ ≠ gb431∧(k_ ≠ gb437∧(k_ ≠ gb442∧k_ ≠ gb447)))))))))))))))))))∧k_ ≠ gb452)) (n:=t448.length) (c:=co331) ?_).2.2;exact D115) (by exact (Kd.N_reads' HO450.out).2.1) A347.out).mono ?_);rintro e w369 ⟨rfl,hb⟩;replace HO_365000:=am (Kd.N_below (by refine sN ?_;exact (Kd.N_mono (Kd.N_far (p:=⟨gb452,0,none⟩) (Kd.N_mono HO_365000.out (fun k_ hk=>(⟨hk,hk.2⟩:_∧k_ ≠ gb452))) (fun _ hk=>hk.2) (.slice Ao331 t448.length co331)) (fun _ h_=>h_.1))) hb);replace HO_370000:=am (Kd.N_below (by refine sN ?_;exact (Kd.N_mono (Kd.N_far (p:=⟨gb452,0,none⟩) (Kd.N_mono HO_370000.out (fun k_ hk=>(⟨hk,hk.2⟩:_∧k_ ≠ gb452))) (fun _ hk=>hk.2) (.slice Ao331 t448.length co331)) (fun _ h_=>h_.1))) hb);replace HO_375000:=am (Kd.N_below (by refine sN ?_;exact (Kd.N_mono (Kd.N_far (p:=⟨gb452,0,none⟩) (Kd.N_mono HO_375000.out (fun k_ hk=>(⟨hk,hk.2⟩:_∧k_ ≠ gb452))) (fun _ hk=>hk.2) (.slice Ao331 t448.length co331)) (fun _ h_=>h_.1))) hb);replace HO_421000:=am (Kd.N_below (by refine sN ?_;exact (Kd.N_mono (Kd.N_far (p:=⟨gb452,0,none⟩) (Kd.N_mono HO_421000.out (fun k_ hk=>(⟨hk,hk.2⟩:_∧k_ ≠ gb452))) (fun _ hk=>hk.2) (.slice Ao331 t448.length co331)) (fun _ h_=>h_.1))) hb);replace HO_422000:=am (Kd.N_below (by refine sN ?_;exact (Kd.N_mono (Kd.N_far (p:=⟨gb452,0,none⟩) (Kd.N_mono HO_422000.out (fun k_ hk=>(⟨hk,hk.2⟩:_∧k_ ≠ gb452))) (fun _ hk=>hk.2) (.slice Ao331 t448.length co331)) (fun _ h_=>h_.1))) hb);replace HO_427000:=am (Kd.N_below (by refine sN ?_;exact (Kd.N_mono (Kd.N_far (p:=⟨gb452,0,none⟩) (Kd.N_mono HO_427000.out (fun k_ hk=>(⟨hk,hk.2⟩:_∧k_ ≠ gb452))) (fun _ hk=>hk.2) (.slice Ao331 t448.length co331)) (fun _ h_=>h_.1))) hb);replace HO_432000:=am (Kd.N_below (by refine sN ?_;exact (Kd.N_mono (Kd.N_far (p:=⟨gb452,0,none⟩) (Kd.N_mono HO_432000.out (fun k_ hk=>(⟨hk,hk.2⟩:_∧k_ ≠ gb452))) (fun _ hk=>hk.2) (.slice Ao331 t448.length co331)) (fun _ h_=>h_.1))) hb);replace HO435:=am (Kd.N_below (by refine sN ?_;exact (Kd.N_mono (Kd.N_far (p:=⟨gb452,0,none⟩) (Kd.N_mono HO435.out (fun k_ hk=>(⟨hk,hk.2⟩:_∧k_ ≠ gb452))) (fun _ hk=>hk.2) (.slice Ao331 t448.length co331)) (fun _ h_=>h_.1))) hb);replace HO440:=am (Kd.N_below (by refine sN ?_;exact (Kd.N_mono (Kd.N_far (p:=⟨gb452,0,none⟩) (Kd.N_mono HO440.out (fun k_ hk=>(⟨hk,hk.2⟩:_∧k_ ≠ gb452))) (fun _ hk=>hk.2) (.slice Ao331 t448.length co331)) (fun _ h_=>h_.1))) hb);replace HO445:=am (Kd.N_below D116 hb);replace HO450:=am (Kd.N_below D115 hb);replace BK364:=am (qb (g:=gb364) (o:=.cells #[.slice Ao12 t358.length co12] 43 (0,0)) (yF BK364) hb);replace BK369:=am (qb (g:=gb369) (o:=.cells #[.slice Ao16 t365.length co16] 43 (0,0)) (yF BK369) hb);replace BK374:=am (qb (g:=gb374) (o:=.cells #[.slice Ao22 t370.length co22] 43 (0,0)) (yF BK374) hb);replace BK420:=am (qb (g:=gb420) (o:=.cells #[.slice Ao219 t414.length co219] 43 (0,0)) (yF BK420) hb);replace BK421:=am (qb (g:=gb421) (o:=.cells #[.slice Ao225 t417.length co225] 43 (0,0)) (yF BK421) hb);replace BK426:=am (qb (g:=gb426) (o:=.cells #[.slice Ao232 t422.length co232] 43 (0,0)) (yF BK426) hb);replace BK431:=am (qb (g:=gb431) (o:=.cells #[.slice Ao243 t427.length co243] 43 (0,0)) (yF BK431) hb);replace BK437:=am (qb (g:=gb437) (o:=.cells #[.slice Ao283 t433.length co283] 43 (0,0)) (yF BK437) hb);replace BK442:=am (qb (g:=gb442) (o:=.cells #[.slice Ao300 t438.length co300] 43 (0,0)) (yF BK442) hb);replace BK447:=am (qb (g:=gb447) (o:=.cells #[.slice Ao313 t443.length co313] 43 (0,0)) (yF BK447) hb);replace BK452:=am (qb (g:=gb452) (o:=.cells #[.slice Ao331 t448.length co331] 43 (0,0)) D74 hb);replace HB:=yH HB hb;clear hb))
               go_meet
               case rel=>exact ⟨_,(t453),D2,H',⟨D66⟩,⟨by refine sN ?_;exact Kd.N_mono HO_365000.out (fun _ hk=>⟨hk.1.1.1.1.1.1.1.1.1,⟨hk.1.1.1.1.1.1.1.1.2.1,⟨hk.1.1.1.1.1.1.1.1.2.2.1,⟨hk.1.1.1.1.1.1.1.1.2.2.2.1,⟨hk.1.1.1.1.1.1.1.1.2.2.2.2.1,⟨hk.1.1.1.1.1.1.1.1.2.2.2.2.2.1,⟨hk.1.1.1.1.1.1.1.2,⟨hk.1.1.1.1.1.2,⟨hk.1.1.1.2,⟨hk.1.2,⟨hk.1.1.1.1.1.1.1.1.2.2.2.2.2.2.1,⟨hk.1.1.1.1.1.1.1.1.2.2.2.2.2.2.2.1,⟨hk.1.1.1.1.1.1.1.1.2.2.2.2.2.2.2.2.1,⟨hk.1.1.1.1.1.1.1.1.2.2.2.2.2.2.2.2.2.1,⟨hk.1.1.1.1.1.1.1.1.2.2.2.2.2.2.2.2.2.2.1,⟨hk.1.1.1.1.1.1.1.1.2.2.2.2.2.2.2.2.2.2.2.1,⟨hk.1.1.1.1.1.1.1.1.2.2.2.2.2.2.2.2.2.2.2.2,⟨hk.1.1.1.1.1.1.2,⟨hk.1.1.1.1.2,⟨hk.1.1.2,hk.2⟩⟩⟩⟩⟩⟩⟩⟩⟩⟩⟩⟩⟩⟩⟩⟩⟩⟩⟩⟩)⟩,⟨by refine sN ?_;exact Kd.N_mono HO_370000.out (fun _ hk=>⟨hk.1.1.1.1.1.1.1.1.1,⟨hk.1.1.1.1.1.1.1.1.2.1,⟨hk.1.1.1.1.1.1.1.1.2.2.1,⟨hk.1.1.1.1.1.1.1.1.2.2.2.1,⟨hk.1.1.1.1.1.1.1.1.2.2.2.2.1,⟨hk.1.1.1.1.1.1.1.1.2.2.2.2.2.1,⟨hk.1.1.1.1.1.1.1.2,⟨hk.1.1.1.1.1.2,⟨hk.1.1.1.2,⟨hk.1.2,⟨hk.1.1.1.1.1.1.1.1.2.2.2.2.2.2.1,⟨hk.1.1.1.1.1.1.1.1.2.2.2.2.2.2.2.1,⟨hk.1.1.1.1.1.1.1.1.2.2.2.2.2.2.2.2.1,⟨hk.1.1.1.1.1.1.1.1.2.2.2.2.2.2.2.2.2.1,⟨hk.1.1.1.1.1.1.1.1.2.2.2.2.2.2.2.2.2.2.1,⟨hk.1.1.1.1.1.1.1.1.2.2.2.2.2.2.2.2.2.2.2.1,⟨hk.1.1.1.1.1.1.1.1.2.2.2.2.2.2.2.2.2.2.2.2,⟨hk.1.1.1.1.1.1.2,⟨hk.1.1.1.1.2,⟨hk.1.1.2,hk.2⟩⟩⟩⟩⟩⟩⟩⟩⟩⟩⟩⟩⟩⟩⟩⟩⟩⟩⟩⟩)⟩,⟨by refine sN ?_;exact Kd.N_mono HO_375000.out (fun _ hk=>⟨hk.1.1.1.1.1.1.1.1.1,⟨hk.1.1.1.1.1.1.1.1.2.1,⟨hk.1.1.1.1.1.1.1.1.2.2.1,⟨hk.1.1.1.1.1.1.1.1.2.2.2.1,⟨hk.1.1.1.1.1.1.1.1.2.2.2.2.1,⟨hk.1.1.1.1.1.1.1.1.2.2.2.2.2.1,⟨hk.1.1.1.1.1.1.1.2,⟨hk.1.1.1.1.1.2,⟨hk.1.1.1.2,⟨hk.1.2,⟨hk.1.1.1.1.1.1.1.1.2.2.2.2.2.2.1,⟨hk.1.1.1.1.1.1.1.1.2.2.2.2.2.2.2.1,⟨hk.1.1.1.1.1.1.1.1.2.2.2.2.2.2.2.2.1,⟨hk.1.1.1.1.1.1.1.1.2.2.2.2.2.2.2.2.2.1,⟨hk.1.1.1.1.1.1.1.1.2.2.2.2.2.2.2.2.2.2.1,⟨hk.1.1.1.1.1.1.1.1.2.2.2.2.2.2.2.2.2.2.2.1,⟨hk.1.1.1.1.1.1.1.1.2.2.2.2.2.2.2.2.2.2.2.2,⟨hk.1.1.1.1.1.1.2,⟨hk.1.1.1.1.2,⟨hk.1.1.2,hk.2⟩⟩⟩⟩⟩⟩⟩⟩⟩⟩⟩⟩⟩⟩⟩⟩⟩⟩⟩⟩)⟩,⟨by refine sN ?_;exact Kd.N_mono HO_421000.out (fun _ hk=>⟨hk.1.1.1.1.1.1.1.1.1,⟨hk.1.1.1.1.1.1.1.1.2.1,⟨hk.1.1.1.1.1.1.1.1.2.2.1,⟨hk.1.1.1.1.1.1.1.1.2.2.2.1,⟨hk.1.1.1.1.1.1.1.1.2.2.2.2.1,⟨hk.1.1.1.1.1.1.1.1.2.2.2.2.2.1,⟨hk.1.1.1.1.1.1.1.2,⟨hk.1.1.1.1.1.2,⟨hk.1.1.1.2,⟨hk.1.2,⟨hk.1.1.1.1.1.1.1.1.2.2.2.2.2.2.1,⟨hk.1.1.1.1.1.1.1.1.2.2.2.2.2.2.2.1,⟨hk.1.1.1.1.1.1.1.1.2.2.2.2.2.2.2.2.1,⟨hk.1.1.1.1.1.1.1.1.2.2.2.2.2.2.2.2.2.1,⟨hk.1.1.1.1.1.1.1.1.2.2.2.2.2.2.2.2.2.2.1,⟨hk.1.1.1.1.1.1.1.1.2.2.2.2.2.2.2.2.2.2.2.1,⟨hk.1.1.1.1.1.1.1.1.2.2.2.2.2.2.2.2.2.2.2.2,⟨hk.1.1.1.1.1.1.2,⟨hk.1.1.1.1.2,⟨hk.1.1.2,hk.2⟩⟩⟩⟩⟩⟩⟩⟩⟩⟩⟩⟩⟩⟩⟩⟩⟩⟩⟩⟩)⟩,⟨by refine sN ?_;exact Kd.N_mono HO_422000.out (fun _ hk=>⟨hk.1.1.1.1.1.1.1.1.1,⟨hk.1.1.1.1.1.1.1.1.2.1,⟨hk.1.1.1.1.1.1.1.1.2.2.1,⟨hk.1.1.1.1.1.1.1.1.2.2.2.1,⟨hk.1.1.1.1.1.1.1.1.2.2.2.2.1,⟨hk.1.1.1.1.1.1.1.1.2.2.2.2.2.1,⟨hk.1.1.1.1.1.1.1.2,⟨hk.1.1.1.1.1.2,⟨hk.1.1.1.2,⟨hk.1.2,⟨hk.1.1.1.1.1.1.1.1.2.2.2.2.2.2.1,⟨hk.1.1.1.1.1.1.1.1.2.2.2.2.2.2.2.1,⟨hk.1.1.1.1.1.1.1.1.2.2.2.2.2.2.2.2.1,⟨hk.1.1.1.1.1.1.1.1.2.2.2.2.2.2.2.2.2.1,⟨hk.1.1.1.1.1.1.1.1.2.2.2.2.2.2.2.2.2.2.1,⟨hk.1.1.1.1.1.1.1.1.2.2.2.2.2.2.2.2.2.2.2.1,⟨hk.1.1.1.1.1.1.1.1.2.2.2.2.2.2.2.2.2.2.2.2,⟨hk.1.1.1.1.1.1.2,⟨hk.1.1.1.1.2,⟨hk.1.1.2,hk.2⟩⟩⟩⟩⟩⟩⟩⟩⟩⟩⟩⟩⟩⟩⟩⟩⟩⟩⟩⟩)⟩,⟨by refine sN ?_;exact Kd.N_mono HO_427000.out (fun _ hk=>⟨hk.1.1.1.1.1.1.1.1.1,⟨hk.1.1.1.1.1.1.1.1.2.1,⟨hk.1.1.1.1.1.1.1.1.2.2.1,⟨hk.1.1.1.1.1.1.1.1.2.2.2.1,⟨hk.1.1.1.1.1.1.1.1.2.2.2.2.1,⟨hk.1.1.1.1.1.1.1.1.2.2.2.2.2.1,⟨hk.1.1.1.1.1.1.1.2,⟨hk.1.1.1.1.1.2,⟨hk.1.1.1.2,⟨hk.1.2,⟨hk.1.1.1.1.1.1.1.1.2.2.2.2.2.2.1,⟨hk.1.1.1.1.1.1.1.1.2.2.2.2.2.2.2.1,⟨hk.1.1.1.1.1.1.1.1.2.2.2.2.2.2.2.2.1,⟨hk.1.1.1.1.1.1.1.1.2.2.2.2.2.2.2.2.2.1,⟨hk.1.1.1.1.1.1.1.1.2.2.2.2.2.2.2.2.2.2.1,⟨hk.1.1.1.1.1.1.1.1.2.2.2.2.2.2.2.2.2.2.2.1,⟨hk.1.1.1.1.1.1.1.1.2.2.2.2.2.2.2.2.2.2.2.2,⟨hk.1.1.1.1.1.1.2,⟨hk.1.1.1.1.2,⟨hk.1.1.2,hk.2⟩⟩⟩⟩⟩⟩⟩⟩⟩⟩⟩⟩⟩⟩⟩⟩⟩⟩⟩⟩)⟩,⟨by refine sN ?_;exact Kd.N_mono HO_432000.out (fun _ hk=>⟨hk.1.1.1.1.1.1.1.1.1,⟨hk.1.1.1.1.1.1.1.1.2.1,⟨hk.1.1.1.1.1.1.1.1.2.2.1,⟨hk.1.1.1.1.1.1.1.1.2.2.2.1,⟨hk.1.1.1.1.1.1.1.1.2.2.2.2.1,⟨hk.1.1.1.1.1.1.1.1.2.2.2.2.2.1,⟨hk.1.1.1.1.1.1.1.2,⟨hk.1.1.1.1.1.2,⟨hk.1.1.1.2,⟨hk.1.2,⟨hk.1.1.1.1.1.1.1.1.2.2.2.2.2.2.1,⟨hk.1.1.1.1.1.1.1.1.2.2.2.2.2.2.2.1,⟨hk.1.1.1.1.1.1.1.1.2.2.2.2.2.2.2.2.1,⟨hk.1.1.1.1.1.1.1.1.2.2.2.2.2.2.2.2.2.1,⟨hk.1.1.1.1.1.1.1.1.2.2.2.2.2.2.2.2.2.2.1,⟨hk.1.1.1.1.1.1.1.1.2.2.2.2.2.2.2.2.2.2.2.1,⟨hk.1.1.1.1.1.1.1.1.2.2.2.2.2.2.2.2.2.2.2.2,⟨hk.1.1.1.1.1.1.2,⟨hk.1.1.1.1.2,⟨hk.1.1.2,hk.2⟩⟩⟩⟩⟩⟩⟩⟩⟩⟩⟩⟩⟩⟩⟩⟩⟩⟩⟩⟩)⟩,⟨by refine sN ?_;exact Kd.N_mono HO435.out (fun _ hk=>⟨hk.1.1.1.1.1.1.1.1,⟨hk.1.1.1.1.1.1.1.2.1,⟨hk.1.1.1.1.1.1.1.2.2.1,⟨hk.1.1.1.1.1.1.1.2.2.2.1,⟨hk.1.1.1.1.1.1.1.2.2.2.2.1,⟨hk.1.1.1.1.1.1.1.2.2.2.2.2.1,⟨hk.1.1.1.1.1.1.1.2.2.2.2.2.2.1,⟨hk.1.1.1.1.1.2,⟨hk.1.1.1.2,⟨hk.1.2,⟨hk.1.1.1.1.1.1.1.2.2.2.2.2.2.2.1,⟨hk.1.1.1.1.1.1.1.2.2.2.2.2.2.2.2.1,⟨hk.1.1.1.1.1.1.1.2.2.2.2.2.2.2.2.2.1,⟨hk.1.1.1.1.1.1.1.2.2.2.2.2.2.2.2.2.2.1,⟨hk.1.1.1.1.1.1.1.2.2.2.2.2.2.2.2.2.2.2.1,⟨hk.1.1.1.1.1.1.1.2.2.2.2.2.2.2.2.2.2.2.2.1,⟨hk.1.1.1.1.1.1.1.2.2.2.2.2.2.2.2.2.2.2.2.2,⟨hk.1.1.1.1.1.1.2,⟨hk.1.1.1.1.2,⟨hk.1.1.2,hk.2⟩⟩⟩⟩⟩⟩⟩⟩⟩⟩⟩⟩⟩⟩⟩⟩⟩⟩⟩⟩)⟩,⟨by refine sN ?_;exact Kd.N_mono HO440.out (fun _ hk=>⟨hk.1.1.1.1.1.1,⟨hk.1.1.1.1.1.2.1,⟨hk.1.1.1.1.1.2.2.1,⟨hk.1.1.1.1.1.2.2.2.1,⟨hk.1.1.1.1.1.2.2.2.2.1,⟨hk.1.1.1.1.1.2.2.2.2.2.1,⟨hk.1.1.1.1.1.2.2.2.2.2.2.1,⟨hk.1.1.1.1.1.2.2.2.2.2.2.2.1,⟨hk.1.1.1.2,⟨hk.1.2,⟨hk.1.1.1.1.1.2.2.2.2.2.2.2.2.1,⟨hk.1.1.1.1.1.2.2.2.2.2.2.2.2.2.1,⟨hk.1.1.1.1.1.2.2.2.2.2.2.2.2.2.2.1,⟨hk.1.1.1.1.1.2.2.2.2.2.2.2.2.2.2.2.1,⟨hk.1.1.1.1.1.2.2.2.2.2.2.2.2.2.2.2.2.1,⟨hk.1.1.1.1.1.2.2.2.2.2.2.2.2.2.2.2.2.2.1,⟨hk.1.1.1.1.1.2.2.2.2.2.2.2.2.2.2.2.2.2.2.1,⟨hk.1.1.1.1.1.2.2.2.2.2.2.2.2.2.2.2.2.2.2.2,⟨hk.1.1.1.1.2,⟨hk.1.1.2,hk.2⟩⟩⟩⟩⟩⟩⟩⟩⟩⟩⟩⟩⟩⟩⟩⟩⟩⟩⟩⟩)⟩,⟨by refine sN ?_;exact Kd.N_mono HO445.out (fun _ hk=>⟨hk.1.1.1.1,⟨hk.1.1.1.2.1,⟨hk.1.1.1.2.2.1,⟨hk.1.1.1.2.2.2.1,⟨hk.1.1.1.2.2.2.2.1,⟨hk.1.1.1.2.2.2.2.2.1,⟨hk.1.1.1.2.2.2.2.2.2.1,⟨hk.1.1.1.2.2.2.2.2.2.2.1,⟨hk.1.1.1.2.2.2.2.2.2.2.2.1,⟨hk.1.2,⟨hk.1.1.1.2.2.2.2.2.2.2.2.2.1,⟨hk.1.1.1.2.2.2.2.2.2.2.2.2.2.1,⟨hk.1.1.1.2.2.2.2.2.2.2.2.2.2.2.1,⟨hk.1.1.1.2.2.2.2.2.2.2.2.2.2.2.2.1,⟨hk.1.1.1.2.2.2.2.2.2.2.2.2.2.2.2.2.1,⟨hk.1.1.1.2.2.2.2.2.2.2.2.2.2.2.2.2.2.1,⟨hk.1.1.1.2.2.2.2.2.2.2.2.2.2.2.2.2.2.2.1,⟨hk.1.1.1.2.2.2.2.2.2.2.2.2.2.2.2.2.2.2.2.1,⟨hk.1.1.1.2.2.2.2.2.2.2.2.2.2.2.2.2.2.2.2.2,⟨hk.1.1.2,hk.2⟩⟩⟩⟩⟩⟩⟩⟩⟩⟩⟩⟩⟩⟩⟩⟩⟩⟩⟩⟩)⟩,⟨by refine sN ?_;exact Kd.N_mono HO450.out (fun _ hk=>⟨hk.1.1,⟨hk.1.2.1,⟨hk.1.2.2.1,⟨hk.1.2.2.2.1,⟨hk.1.2.2.2.2.1,⟨hk.1.2.2.2.2.2.1,⟨hk.1.2.2.2.2.2.2.1,⟨hk.1.2.2.2.2.2.2.2.1,⟨hk.1.2.2.2.2.2.2.2.2.1,⟨hk.1.2.2.2.2.2.2.2.2.2.1,⟨hk.1.2.2.2.2.2.2.2.2.2.2.1,⟨hk.1.2.2.2.2.2.2.2.2.2.2.2.1,⟨hk.1.2.2.2.2.2.2.2.2.2.2.2.2.1,⟨hk.1.2.2.2.2.2.2.2.2.2.2.2.2.2.1,⟨hk.1.2.2.2.2.2.2.2.2.2.2.2.2.2.2.1,⟨hk.1.2.2.2.2.2.2.2.2.2.2.2.2.2.2.2.1,⟨hk.1.2.2.2.2.2.2.2.2.2.2.2.2.2.2.2.2.1,⟨hk.1.2.2.2.2.2.2.2.2.2.2.2.2.2.2.2.2.2.1,⟨hk.1.2.2.2.2.2.2.2.2.2.2.2.2.2.2.2.2.2.2.1,⟨hk.1.2.2.2.2.2.2.2.2.2.2.2.2.2.2.2.2.2.2.2,hk.2⟩⟩⟩⟩⟩⟩⟩⟩⟩⟩⟩⟩⟩⟩⟩⟩⟩⟩⟩⟩)⟩,⟨yB BK364⟩,⟨yB BK369⟩,⟨yB BK374⟩,⟨yB BK420⟩,⟨yB BK421⟩,⟨yB BK426⟩,⟨yB BK431⟩,⟨yB BK437⟩,⟨yB BK442⟩,⟨yB BK447⟩,⟨yB BK452⟩,⟨yW HB⟩⟩
              replace c346:=Bool.eq_false_iff.mpr c346
              subst c346
              replace H:=yn H
              have H':=am H
              clear H
              go_wp2
              repeat (go_quiet (fail);try go_wp2)
              go_meet
              case rel=>exact ⟨_,(false),D2,H',⟨D66⟩,⟨D17⟩,⟨D16⟩,⟨D15⟩,⟨D14⟩,⟨D13⟩,⟨D12⟩,⟨D11⟩,⟨D21⟩,⟨D20⟩,⟨D19⟩,⟨D18⟩,⟨yF BK364⟩,⟨yF BK369⟩,⟨yF BK374⟩,⟨yF BK420⟩,⟨yF BK421⟩,⟨yF BK426⟩,⟨yF BK431⟩,⟨yF BK437⟩,⟨yF BK442⟩,⟨yF BK447⟩,⟨D74⟩,⟨yW HB⟩⟩
             replace c345:=Bool.eq_false_iff.mpr c345
             subst c345
             replace H:=yn H
             have H':=am H
             clear H
             go_wp2
             repeat (go_quiet (fail);try go_wp2)
             go_meet
             case rel=>exact ⟨_,(false),D2,H',⟨D66⟩,⟨D17⟩,⟨D16⟩,⟨D15⟩,⟨D14⟩,⟨D13⟩,⟨D12⟩,⟨D11⟩,⟨D21⟩,⟨D20⟩,⟨D19⟩,⟨D18⟩,⟨yF BK364⟩,⟨yF BK369⟩,⟨yF BK374⟩,⟨yF BK420⟩,⟨yF BK421⟩,⟨yF BK426⟩,⟨yF BK431⟩,⟨yF BK437⟩,⟨yF BK442⟩,⟨yF BK447⟩,⟨D74⟩,⟨yW HB⟩⟩
            replace c344:=Bool.eq_false_iff.mpr c344
            subst c344
            replace H:=yn H
            have H':=am H
            clear H
            go_wp2
            repeat (go_quiet (fail);try go_wp2)
            go_meet
            case rel=>exact ⟨_,(false),D2,H',⟨D66⟩,⟨D17⟩,⟨D16⟩,⟨D15⟩,⟨D14⟩,⟨D13⟩,⟨D12⟩,⟨D11⟩,⟨D21⟩,⟨D20⟩,⟨D19⟩,⟨D18⟩,⟨yF BK364⟩,⟨yF BK369⟩,⟨yF BK374⟩,⟨yF BK420⟩,⟨yF BK421⟩,⟨yF BK426⟩,⟨yF BK431⟩,⟨yF BK437⟩,⟨yF BK442⟩,⟨yF BK447⟩,⟨D74⟩,⟨yW HB⟩⟩
           replace c343:=Bool.eq_false_iff.mpr c343
           subst c343
           replace H:=yn H
           have H':=am H
           clear H
           go_wp2
           repeat (go_quiet (fail);try go_wp2)
           go_meet
           case rel=>exact ⟨_,(false),D2,H',⟨D66⟩,⟨D17⟩,⟨D16⟩,⟨D15⟩,⟨D14⟩,⟨D13⟩,⟨D12⟩,⟨D11⟩,⟨D21⟩,⟨D20⟩,⟨D19⟩,⟨D18⟩,⟨yF BK364⟩,⟨yF BK369⟩,⟨yF BK374⟩,⟨yF BK420⟩,⟨yF BK421⟩,⟨yF BK426⟩,⟨yF BK431⟩,⟨yF BK437⟩,⟨yF BK442⟩,⟨yF BK447⟩,⟨D74⟩,⟨yW HB⟩⟩
          case rest=>as_aux_lemma=>
           clear HC273
           try clear c1
           try clear c2
           try clear p2
           try clear c3
           try clear c3b0
           try clear p3
           try clear q3
           try clear hx3
           try clear qi3
           try clear c4
           try clear p4
           try clear q4
           try clear hx4
           try clear c5
           try clear c6
           try clear p6
           try clear c7
           try clear c8
           try clear c9
           try clear c10
           try clear c11
           try clear c12
           try clear c13
           try clear c14
           try clear c15
           try clear c16
           try clear c17
           try clear c18
           try clear c19
           try clear c20
           try clear c22
           try clear c23
           try clear c24
           try clear c25
           try clear c26
           try clear c27
           try clear c28
           try clear c29
           try clear c30
           try clear c30b0
           try clear c30b1
           try clear c30b2
           try clear c31
           try clear c32
           try clear c33
           try clear c33b0
           try clear c33b1
           try clear c33b2
           try clear c34
           try clear c35
           try clear c36
           try clear c37
           try clear c38
           try clear p38
           try clear q38
           try clear hx38
           try clear qi38
           try clear c40
           try clear c40b0
           try clear c40b1
           try clear c41
           try clear p41
           try clear q41
           try clear hx41
           try clear c42
           try clear c43
           try clear c45
           try clear c50
           try clear c51
           try clear c53
           try clear c56
           try clear c57
           try clear c59
           try clear c62
           try clear c64
           try clear p64
           try clear c68
           try clear c69
           try clear c74
           try clear c75
           try clear c76
           try clear c79
           try clear c80
           try clear c81
           try clear c81b0
           try clear c81b1
           try clear c82
           try clear c82b0
           try clear c82b1
           try clear c83
           try clear c83b0
           try clear c83b1
           try clear c83b2
           try clear c84
           try clear c85
           try clear c86
           try clear c88
           try clear c89
           try clear c90
           try clear c92
           try clear c94
           try clear c100
           try clear c101
           try clear c103
           try clear c108
           try clear c109
           try clear c110
           try clear c117
           try clear c118
           try clear c119
           try clear c120
           try clear c126
           try clear c127
           try clear c128
           try clear c129
           try clear c130
           try clear c135
           try clear c136
           try clear c137
           try clear c139
           try clear c141
           try clear c142
           try clear c143
           try clear c144
           try clear c145
           try clear c146
           try clear c148
           try clear c149
           try clear c150
           try clear c151
           try clear c154
           try clear c155
           try clear c156
           try clear c160
           try clear c161
           try clear c163
           try clear c164
           try clear c165
           try clear c166
           try clear c167
           try clear c169
           try clear c170
           try clear c171
           try clear c172
           try clear c175
           try clear c176
           try clear c177
           try clear c181
           try clear c182
           try clear c183
           try clear c184
           try clear c185
           try clear c187
           try clear c188
           try clear c189
           try clear c190
           try clear c193
           try clear c195
           try clear c196
           try clear c197
           try clear c198
           try clear c199
           try clear c200
           try clear c202
           try clear c202b0
           try clear c203
           try clear c203b0
           try clear c204
           try clear c204b0
           try clear c206
           try clear c207
           try clear c207b0
           try clear c208
           try clear c208b0
           try clear c208b1
           try clear c220
           try clear c221
           try clear c222
           try clear c223
           try clear c226
           try clear c227
           try clear c228
           try clear c233
           try clear c234
           try clear c235
           try clear c236
           try clear c237
           try clear c244
           try clear c245
           try clear c246
           try clear c247
           try clear c248
           try clear c249
           try clear c251
           try clear c251b0
           try clear c251b1
           try clear c251b2
           try clear c253
           try clear c254
           try clear c255
           try clear c256
           try clear c257
           try clear c258
           try clear c260
           try clear c261
           try clear c262
           try clear c263
           try clear c264
           try clear c267
           try clear c268
           try clear c274
           try clear c275
           try clear c276
           try clear c277
           try clear c278
           try clear c279
           try clear c284
           try clear c285
           try clear c286
           try clear c287
           try clear c288
           try clear c289
           try clear c290
           try clear c292
           try clear c293
           try clear c294
           try clear c295
           try clear c296
           try clear c301
           try clear c302
           try clear c303
           try clear c304
           try clear c305
           try clear c306
           try clear c307
           try clear c308
           try clear c314
           try clear c315
           try clear c316
           try clear c317
           try clear c318
           try clear c319
           try clear c320
           try clear c321
           try clear c322
           try clear c324
           try clear c325
           try clear c326
           try clear c327
           try clear c332
           try clear c333
           try clear c334
           try clear c335
           try clear c336
           try clear c337
           try clear c338
           try clear c339
           try clear c340
           try clear c341
           try clear c343
           try clear c344
           try clear c345
           try clear c346
           try clear c348
           try clear c349
           try clear c350
           try clear c351
           try clear c352
           try clear c353
           try clear c354
           try clear c355
           try clear c356
           try clear c357
           try clear c359
           try clear c360
           try clear c361
           try clear c362
           try clear c363
           try clear c364
           try clear c365
           try clear c366
           try clear c367
           try clear hcz102_0
           try clear hcz104_0
           try clear hcz111_0
           try clear hcz112_0
           try clear hcz113_0
           try clear hcz121_0
           try clear hcz122_0
           try clear hcz131_0
           try clear hcz132_0
           try clear hcz13_0
           try clear hcz147_0
           try clear hcz152_0
           try clear hcz157_0
           try clear hcz158_0
           try clear hcz162_0
           try clear hcz168_0
           try clear hcz173_0
           try clear hcz178_0
           try clear hcz179_0
           try clear hcz186_0
           try clear hcz18_0
           try clear hcz191_0
           try clear hcz19_0
           try clear hcz201_0
           try clear hcz224_0
           try clear hcz229_0
           try clear hcz238_0
           try clear hcz239_0
           try clear hcz240_0
           try clear hcz250_0
           try clear hcz259_0
           try clear hcz25_0
           try clear hcz265_0
           try clear hcz26_0
           try clear hcz280_0
           try clear hcz28_0
           try clear hcz291_0
           try clear hcz297_0
           try clear hcz309_0
           try clear hcz310_0
           try clear hcz323_0
           try clear hcz328_0
           try clear hcz342_0
           try clear hcz358_0
           try clear hcz368_0
           try clear hcz36_0
           try clear hcz38_0
           try clear hcz44_0
           try clear hcz46_0
           try clear hcz48_0
           try clear hcz52_0
           try clear hcz54_0
           try clear hcz58_0
           try clear hcz60_0
           try clear hcz70_0
           try clear hcz77_0
           try clear hcz87_0
           try clear hcz91_0
           try clear hfz102_0
           try clear hfz104_0
           try clear hfz111_0
           try clear hfz112_0
           try clear hfz113_0
           try clear hfz121_0
           try clear hfz122_0
           try clear hfz131_0
           try clear hfz132_0
           try clear hfz13_0
           try clear hfz147_0
           try clear hfz152_0
           try clear hfz157_0
           try clear hfz158_0
           try clear hfz162_0
           try clear hfz168_0
           try clear hfz173_0
           try clear hfz178_0
           try clear hfz179_0
           try clear hfz186_0
           try clear hfz18_0
           try clear hfz191_0
           try clear hfz19_0
           try clear hfz201_0
           try clear hfz224_0
           try clear hfz229_0
           try clear hfz238_0
           try clear hfz239_0
           try clear hfz240_0
           try clear hfz250_0
           try clear hfz259_0
           try clear hfz25_0
           try clear hfz265_0
           try clear hfz26_0
           try clear hfz280_0
           try clear hfz28_0
           try clear hfz291_0
           try clear hfz297_0
           try clear hfz309_0
           try clear hfz310_0
           try clear hfz323_0
           try clear hfz328_0
           try clear hfz342_0
           try clear hfz358_0
           try clear hfz368_0
           try clear hfz36_0
           try clear hfz38_0
           try clear hfz44_0
           try clear hfz46_0
           try clear hfz48_0
           try clear hfz52_0
           try clear hfz54_0
           try clear hfz58_0
           try clear hfz60_0
           try clear hfz70_0
           try clear hfz77_0
           try clear hfz87_0
           try clear hfz91_0
           try clear hx388_0
           try clear hx410_0
           try clear hx413_0
           try clear p2
           try clear p3
           try clear p38
           try clear p388
           try clear p4
           try clear p41
           try clear p410
           try clear p413
           try clear p6
           try clear p64
           try clear q3
           try clear q38
           try clear q388
           try clear q4
           try clear q41
           try clear q410
           try clear q413
           obtain ⟨kq,x4_272,rfl,HA,HJ272,HO_365000,HO_370000,HO_375000,HO_421000,HO_422000,HO_427000,HO_432000,HO_438000,HO_443000,HO_448000,HO_453000,BK364,BK369,BK374,BK420,BK421,BK426,BK431,BK437,BK442,BK447,BK452,HB⟩:=hcut
           cases kq with
           | zero=>exact absurd HA.out (by simp [laws_FnMatrices.j8])
           | succ kj272 =>
            have H:=HA.out
            clear HA
            simp only [laws_FnMatrices.j8] at H
            obtain rfl:=Option.some.inj H
            go_wp2
            repeat (go_quiet (fail);try go_wp2)
            go_ret
            exact ⟨D0,yW HB⟩
         replace c268:=Bool.eq_false_iff.mpr c268
         subst c268
         replace H:=yn H
         obtain rfl:=Option.some.inj H
         have hnb370:=NB426_364.out
         have hnc370:=NB364_426.out
         have hnb371:=NB426_369.out
         have hnc371:=NB369_426.out
         have hnb372:=NB426_374.out
         have hnc372:=NB374_426.out
         have hnb373:=NB426_420.out
         have hnc373:=NB420_426.out
         have hnb374:=NB426_421.out
         have hnc374:=NB421_426.out
         have hnb375:=NB426_431.out
         have hnc375:=NB431_426.out
         obtain ⟨hcz376_0,hfz376_0⟩:=yk1 BK426
         go_wp2
         repeat (go_quiet (fail);try go_wp2)
         go_ret
         exact ⟨D0,yW HB⟩

/-- THE ONE PURE STATEMENT of laws_FnMatrices: yours. -/
def laws_FnMatrices.Pure:Prop:=∀ (l0:List Int) (l1:List Int),l0.length≤maxLen→l0.length*1≤140737488351232→(∀ x ∈ l0,(Lit.int .u8 x).wf=true)→l1.length≤maxLen→l1.length*1≤140737488351232→(∀ x ∈ l1,(Lit.int .u8 x).wf=true)→∃ k,laws_FnMatrices.f k l0 l1=some true
end Go.Proofs.Ytajikfnpcobnpaa.PFnMatrices
-- SQUEEZED
