-- Laid by a program of this session.
import Derived.Test.YtajikfnpcobnpaaPFnExactDecodeMsrx0
import Derived.Test.YtajikfnpcobnpaaPFnExactDecodeMsrx1
namespace Go.Proofs.Ytajikfnpcobnpaa.PFnExactDecodeMsr
open Go.RowKit Go.Proofs.YtajikfnpcobnpaaW.PrintWords Go.Proofs.YtajikfnpcobnpaaW.PrintLast Go.Proofs.YtajikfnpcobnpaaW.PrintMore
attribute [local go_sem] max2_int min2_int max_two min_two max_three min_three max_four min_four   -- for this text's walks alone
set_option linter.unusedVariables false
set_option maxHeartbeats 8000000
set_option maxRecDepth 100000
set_option linter.unusedSimpArgs false

def laws_eqPiece.f (k:Nat) (a0_0:Int) (l0_1:List Int) (a1_0:Int) (l1_1:List Int):Option (Bool):=if a0_0=a1_0 then ((laws_eqByteS.f k l0_1 l1_1).bind fun t374=>(if t374=true then (some true) else (some false))) else (some false)
theorem laws_eqPiece.mono:∀ a0 a1 a2 a3 k,LeO (laws_eqPiece.f k a0 a1 a2 a3) (laws_eqPiece.f (k+1) a0 a1 a2 a3):=by
 intro a0 a1 a2 a3 k
 unfold laws_eqPiece.f
 repeat' first
   | (with_reducible exact laws_eqByteS.mono _ _ _)
   |(with_reducible exact LeO.refl _)|(with_reducible exact LeO.none _)|(with_reducible refine LeO.ite ?_ ?_)|(with_reducible refine LeO.bind ?_ (fun _=>?_))|exact laws_eqByteS.mono _ _ _|exact LeO.none _|refine LeO.ite ?_ ?_|refine LeO.bind ?_ (fun _=>?_)
theorem laws_eqPiece.calls (k:Nat) (a0_0:Int) (A0_1:Option Addr) (c0_1:Nat) (l0_1:List Int) (a1_0:Int) (A1_1:Option Addr) (c1_1:Nat) (l1_1:List Int) (r:Bool) (w:World) (hr0_1:Kd.C (Kd.int .u8) w A0_1 l0_1.length l0_1) (hc0_1:l0_1.length≤c0_1) (hr1_1:Kd.C (Kd.int .u8) w A1_1 l1_1.length l1_1) (hc1_1:l1_1.length≤c1_1) (h:laws_eqPiece.f k a0_0 l0_1 a1_0 l1_1=some r) :
  Calls Try.prog 48 #[.agg #[.int .i64 a0_0, .slice A0_1 l0_1.length c0_1], .agg #[.int .i64 a1_0, .slice A1_1 l1_1.length c1_1]] w fun e w'=>e = .returned (.bool r)∧Below w.heap.size w w':=by
 have hu69:=Try.underlying69
 have HR0_1:=am hr0_1
 have HC0_1:=am hc0_1
 clear hr0_1 hc0_1
 have HR1_1:=am hr1_1
 have HC1_1:=am hc1_1
 clear hr1_1 hc1_1
 have HB:=am (Below.refl w.heap.size w)
 have H:(if a0_0=a1_0 then ((laws_eqByteS.f k l0_1 l1_1).bind fun t374=>(if t374=true then (some true) else (some false))) else (some false))=some r:=h
 clear h
 by_cases c3:a0_0=a1_0
 ·rw [if_pos c3] at H
  have c3b0:(a0_0 == a1_0)=true:=beq_iff_eq.mpr c3
  have c3b1:(a0_0 != a1_0)=false:=bne_eq_false_iff_eq.mpr c3
  clear c3
  replace H:=Option.bind_eq_some_iff.mp H
  obtain ⟨t374,A40,H⟩:=H
  replace H:(if t374=true then (some true) else (some false))=some r:=H
  have A4:=am A40
  clear A40
  by_cases c5:t374=true
  ·subst c5
   have H1:(some true)=some r:=by rw [if_pos rfl] at H;exact H
   clear H
   have H:=H1
   clear H1
   obtain rfl:=Option.some.inj H
   go_enter Try.func48,Try.ntmps48
   go_wp2_with (first|((with_reducible refine gate_dst (N:=2) rfl ?_);refine box_event ?hg (N:=2) ?hd (cs:=#[.int .i64 a0_0, .slice A0_1 l0_1.length c0_1]) (t:=69) ?hr ?_;(case hd=>rfl);(case hg=>rfl);(case hr=>first|(go_simp;done)|(go_simp;rfl));intro gb372 hg w6 hbox hb;have n0_:=am (pu d0 hb);have n1_:=am (hbox);have n2_:=am ((by rw [hg];exact (pz d0):w.heap.size≤gb372));have n3_:=n2_;clear HB;have HB:=n0_;have BK372:=n1_;have GW372:=n2_;have GE372:=n3_;clear n0_ n1_ n2_ n3_;clear hb hbox hg)|((with_reducible refine gate_dst (N:=3) rfl ?_);refine box_event ?hg (N:=3) ?hd (cs:=#[.int .i64 a1_0, .slice A1_1 l1_1.length c1_1]) (t:=69) ?hr ?_;(case hd=>rfl);(case hg=>rfl);(case hr=>first|(go_simp;done)|(go_simp;rfl));intro gb373 hg w7 hbox hb;have n0_:=am (qb (g:=gb372) (o:=.cells #[.int .i64 a0_0, .slice A0_1 l0_1.length c0_1] 69 (0,0)) (by (with_reducible repeat (first|refine qn ?_ _|refine qd ?_|refine qa ?_ _));exact BK372.out) hb);have n1_:=am (pu (by repeat (first|(with_reducible first|exact HB.out|apply pa|apply pb|apply pd|refine pt ?_ GE372.out)|exact HB.out)) hb);have n2_:=am (hbox);have n3_:=am ((by rw [hg];exact (pz (by repeat (first|(with_reducible first|exact HB.out|apply pa|apply pb|apply pd|refine pt ?_ GE372.out)|exact HB.out))):w.heap.size≤gb373));have n4_:=n3_;have n5_:=am ((by rw [hg];exact Nat.ne_of_lt (blk_lt (g:=gb372) (o:=.cells #[.int .i64 a0_0, .slice A0_1 l0_1.length c0_1] 69 (0,0)) (by (with_reducible repeat (first|refine qn ?_ _|refine qd ?_|refine qa ?_ _));exact BK372.out)):gb372 ≠ gb373));have n6_:=am ((by rw [hg];exact Nat.ne_of_gt (blk_lt (g:=gb372) (o:=.cells #[.int .i64 a0_0, .slice A0_1 l0_1.length c0_1] 69 (0,0)) (by (with_reducible repeat (first|refine qn ?_ _|refine qd ?_|refine qa ?_ _));exact BK372.out)):gb373 ≠ gb372));clear BK372;clear HB;have BK372:=n0_;have HB:=n1_;have BK373:=n2_;have GW373:=n3_;have GE373:=n4_;have NB372_373:=n5_;have NB373_372:=n6_;clear n0_ n1_ n2_ n3_ n4_ n5_ n6_;clear hb hbox hg;have hnb8:=NB372_373.out;have hnc8:=NB373_372.out;have hcz9_0:w7.cell? ⟨gb372,0,none⟩=some (.int .i64 a0_0):=(blk_cell BK372.out 0).trans rfl;have hcz9_1:w7.cell? ⟨gb372,1,none⟩=some (.slice A0_1 l0_1.length c0_1):=(blk_cell BK372.out 1).trans rfl;have hfz9_0:=blk_frozen BK372.out 0;have hfz9_1:=blk_frozen BK372.out 1;have hcz10_0:w7.cell? ⟨gb373,0,none⟩=some (.int .i64 a1_0):=(blk_cell BK373.out 0).trans rfl;have hcz10_1:w7.cell? ⟨gb373,1,none⟩=some (.slice A1_1 l1_1.length c1_1):=(blk_cell BK373.out 1).trans rfl;have hfz10_0:=blk_frozen BK373.out 0;have hfz10_1:=blk_frozen BK373.out 1)|((with_reducible refine gate_callee (f:=40) rfl ?_);refine goesL_ (some 14) rfl rfl Try.func40 d3 rfl #[.slice A0_1 l0_1.length c0_1, .slice A1_1 l1_1.length c1_1] rfl d5 ?_;(with_reducible refine (laws_eqByteS.calls k _ _ l0_1 _ _ l1_1 true _ ?side1 ?side2 ?side3 ?side4 A4.out).mono ?_);(case side1=>repeat (first|exact (Kd.C_below HR0_1.out HB.out)|(with_reducible refine Kd.C_alloc ?_ _)|(with_reducible refine Kd.C_drewN ?_ _)|(with_reducible refine Kd.C_drew ?_)));(case side2=>exact HC0_1.out);(case side3=>repeat (first|exact (Kd.C_below HR1_1.out HB.out)|(with_reducible refine Kd.C_alloc ?_ _)|(with_reducible refine Kd.C_drewN ?_ _)|(with_reducible refine Kd.C_drew ?_)));(case side4=>exact HC1_1.out);rintro e w' ⟨rfl,⟨nd,rfl⟩⟩;refine ⟨_,rfl,?_⟩))
   go_ret
   exact ⟨d4,by repeat (first|(with_reducible first|exact HB.out|apply pa|apply pb|apply pd|refine pt ?_ GE372.out|refine pt ?_ GE373.out)|exact HB.out)⟩
  replace c5:=Bool.eq_false_iff.mpr c5
  subst c5
  have H1:(some false)=some r:=by rw [if_neg (show ¬ (false=true) by decide)] at H;exact H
  clear H
  have H:=H1
  clear H1
  obtain rfl:=Option.some.inj H
  go_enter Try.func48,Try.ntmps48
  go_wp2_with (first|((with_reducible refine gate_dst (N:=2) rfl ?_);refine box_event ?hg (N:=2) ?hd (cs:=#[.int .i64 a0_0, .slice A0_1 l0_1.length c0_1]) (t:=69) ?hr ?_;(case hd=>rfl);(case hg=>rfl);(case hr=>first|(go_simp;done)|(go_simp;rfl));intro gb372 hg w11 hbox hb;have n0_:=am (pu d0 hb);have n1_:=am (hbox);have n2_:=am ((by rw [hg];exact (pz d0):w.heap.size≤gb372));have n3_:=n2_;clear HB;have HB:=n0_;have BK372:=n1_;have GW372:=n2_;have GE372:=n3_;clear n0_ n1_ n2_ n3_;clear hb hbox hg)|((with_reducible refine gate_dst (N:=3) rfl ?_);refine box_event ?hg (N:=3) ?hd (cs:=#[.int .i64 a1_0, .slice A1_1 l1_1.length c1_1]) (t:=69) ?hr ?_;(case hd=>rfl);(case hg=>rfl);(case hr=>first|(go_simp;done)|(go_simp;rfl));intro gb373 hg w12 hbox hb;have n0_:=am (qb (g:=gb372) (o:=.cells #[.int .i64 a0_0, .slice A0_1 l0_1.length c0_1] 69 (0,0)) (by (with_reducible repeat (first|refine qn ?_ _|refine qd ?_|refine qa ?_ _));exact BK372.out) hb);have n1_:=am (pu (by repeat (first|(with_reducible first|exact HB.out|apply pa|apply pb|apply pd|refine pt ?_ GE372.out)|exact HB.out)) hb);have n2_:=am (hbox);have n3_:=am ((by rw [hg];exact (pz (by repeat (first|(with_reducible first|exact HB.out|apply pa|apply pb|apply pd|refine pt ?_ GE372.out)|exact HB.out))):w.heap.size≤gb373));have n4_:=n3_;have n5_:=am ((by rw [hg];exact Nat.ne_of_lt (blk_lt (g:=gb372) (o:=.cells #[.int .i64 a0_0, .slice A0_1 l0_1.length c0_1] 69 (0,0)) (by (with_reducible repeat (first|refine qn ?_ _|refine qd ?_|refine qa ?_ _));exact BK372.out)):gb372 ≠ gb373));have n6_:=am ((by rw [hg];exact Nat.ne_of_gt (blk_lt (g:=gb372) (o:=.cells #[.int .i64 a0_0, .slice A0_1 l0_1.length c0_1] 69 (0,0)) (by (with_reducible repeat (first|refine qn ?_ _|refine qd ?_|refine qa ?_ _));exact BK372.out)):gb373 ≠ gb372));clear BK372;clear HB;have BK372:=n0_;have HB:=n1_;have BK373:=n2_;have GW373:=n3_;have GE373:=n4_;have NB372_373:=n5_;have NB373_372:=n6_;clear n0_ n1_ n2_ n3_ n4_ n5_ n6_;clear hb hbox hg;have hnb13:=NB372_373.out;have hnc13:=NB373_372.out;have hcz14_0:w12.cell? ⟨gb372,0,none⟩=some (.int .i64 a0_0):=(blk_cell BK372.out 0).trans rfl;have hcz14_1:w12.cell? ⟨gb372,1,none⟩=some (.slice A0_1 l0_1.length c0_1):=(blk_cell BK372.out 1).trans rfl;have hfz14_0:=blk_frozen BK372.out 0;have hfz14_1:=blk_frozen BK372.out 1;have hcz15_0:w12.cell? ⟨gb373,0,none⟩=some (.int .i64 a1_0):=(blk_cell BK373.out 0).trans rfl;have hcz15_1:w12.cell? ⟨gb373,1,none⟩=some (.slice A1_1 l1_1.length c1_1):=(blk_cell BK373.out 1).trans rfl;have hfz15_0:=blk_frozen BK373.out 0;have hfz15_1:=blk_frozen BK373.out 1)|((with_reducible refine gate_callee (f:=40) rfl ?_);refine goesL_ (some 14) rfl rfl Try.func40 d3 rfl #[.slice A0_1 l0_1.length c0_1, .slice A1_1 l1_1.length c1_1] rfl d5 ?_;(with_reducible refine (laws_eqByteS.calls k _ _ l0_1 _ _ l1_1 false _ ?side1 ?side2 ?side3 ?side4 A4.out).mono ?_);(case side1=>repeat (first|exact (Kd.C_below HR0_1.out HB.out)|(with_reducible refine Kd.C_alloc ?_ _)|(with_reducible refine Kd.C_drewN ?_ _)|(with_reducible refine Kd.C_drew ?_)));(case side2=>exact HC0_1.out);(case side3=>repeat (first|exact (Kd.C_below HR1_1.out HB.out)|(with_reducible refine Kd.C_alloc ?_ _)|(with_reducible refine Kd.C_drewN ?_ _)|(with_reducible refine Kd.C_drew ?_)));(case side4=>exact HC1_1.out);rintro e w' ⟨rfl,⟨nd,rfl⟩⟩;refine ⟨_,rfl,?_⟩))
  go_ret
  exact ⟨d4,by repeat (first|(with_reducible first|exact HB.out|apply pa|apply pb|apply pd|refine pt ?_ GE372.out|refine pt ?_ GE373.out)|exact HB.out)⟩
 rw [if_neg c3] at H
 have c3b0:(a0_0 == a1_0)=false:=beq_eq_false_iff_ne.mpr c3
 have c3b1:(a0_0 != a1_0)=true:=bne_iff_ne.mpr c3
 obtain rfl:=Option.some.inj H
 go_enter Try.func48,Try.ntmps48
 go_wp2_with (first|((with_reducible refine gate_dst (N:=2) rfl ?_);refine box_event ?hg (N:=2) ?hd (cs:=#[.int .i64 a0_0, .slice A0_1 l0_1.length c0_1]) (t:=69) ?hr ?_;(case hd=>rfl);(case hg=>rfl);(case hr=>first|(go_simp;done)|(go_simp;rfl));intro gb372 hg w16 hbox hb;have n0_:=am (pu d0 hb);have n1_:=am (hbox);have n2_:=am ((by rw [hg];exact (pz d0):w.heap.size≤gb372));have n3_:=n2_;clear HB;have HB:=n0_;have BK372:=n1_;have GW372:=n2_;have GE372:=n3_;clear n0_ n1_ n2_ n3_;clear hb hbox hg)|((with_reducible refine gate_dst (N:=3) rfl ?_);refine box_event ?hg (N:=3) ?hd (cs:=#[.int .i64 a1_0, .slice A1_1 l1_1.length c1_1]) (t:=69) ?hr ?_;(case hd=>rfl);(case hg=>rfl);(case hr=>first|(go_simp;done)|(go_simp;rfl));intro gb373 hg w17 hbox hb;have n0_:=am (qb (g:=gb372) (o:=.cells #[.int .i64 a0_0, .slice A0_1 l0_1.length c0_1] 69 (0,0)) (by (with_reducible repeat (first|refine qn ?_ _|refine qd ?_|refine qa ?_ _));exact BK372.out) hb);have n1_:=am (pu (by repeat (first|(with_reducible first|exact HB.out|apply pa|apply pb|apply pd|refine pt ?_ GE372.out)|exact HB.out)) hb);have n2_:=am (hbox);have n3_:=am ((by rw [hg];exact (pz (by repeat (first|(with_reducible first|exact HB.out|apply pa|apply pb|apply pd|refine pt ?_ GE372.out)|exact HB.out))):w.heap.size≤gb373));have n4_:=n3_;have n5_:=am ((by rw [hg];exact Nat.ne_of_lt (blk_lt (g:=gb372) (o:=.cells #[.int .i64 a0_0, .slice A0_1 l0_1.length c0_1] 69 (0,0)) (by (with_reducible repeat (first|refine qn ?_ _|refine qd ?_|refine qa ?_ _));exact BK372.out)):gb372 ≠ gb373));have n6_:=am ((by rw [hg];exact Nat.ne_of_gt (blk_lt (g:=gb372) (o:=.cells #[.int .i64 a0_0, .slice A0_1 l0_1.length c0_1] 69 (0,0)) (by (with_reducible repeat (first|refine qn ?_ _|refine qd ?_|refine qa ?_ _));exact BK372.out)):gb373 ≠ gb372));clear BK372;clear HB;have BK372:=n0_;have HB:=n1_;have BK373:=n2_;have GW373:=n3_;have GE373:=n4_;have NB372_373:=n5_;have NB373_372:=n6_;clear n0_ n1_ n2_ n3_ n4_ n5_ n6_;clear hb hbox hg;have hnb18:=NB372_373.out;have hnc18:=NB373_372.out;have hcz19_0:w17.cell? ⟨gb372,0,none⟩=some (.int .i64 a0_0):=(blk_cell BK372.out 0).trans rfl;have hcz19_1:w17.cell? ⟨gb372,1,none⟩=some (.slice A0_1 l0_1.length c0_1):=(blk_cell BK372.out 1).trans rfl;have hfz19_0:=blk_frozen BK372.out 0;have hfz19_1:=blk_frozen BK372.out 1;have hcz20_0:w17.cell? ⟨gb373,0,none⟩=some (.int .i64 a1_0):=(blk_cell BK373.out 0).trans rfl;have hcz20_1:w17.cell? ⟨gb373,1,none⟩=some (.slice A1_1 l1_1.length c1_1):=(blk_cell BK373.out 1).trans rfl;have hfz20_0:=blk_frozen BK373.out 0;have hfz20_1:=blk_frozen BK373.out 1))
 go_ret
 exact ⟨d4,by repeat (first|(with_reducible first|exact HB.out|apply pa|apply pb|apply pd|refine pt ?_ GE372.out|refine pt ?_ GE373.out)|exact HB.out)⟩

def laws_eqPieceS.l0:Nat→List (S69)→List (S69)→Int→Option (Bool)
 | 0,_,_,_=>none
 | k+1,x0,x1,x5=>if x5 < (x0.length:Int) then (if 0≤x5 then (if x5 < (x1.length:Int) then ((laws_eqPiece.f k ((rd_T69 x0 x5).f0) ((rd_T69 x0 x5).f1) ((rd_T69 x1 x5).f0) ((rd_T69 x1 x5).f1)).bind fun t377=>(if t377=true then (laws_eqPieceS.l0 k x0 x1 (wrap64 (x5+1))) else (some false))) else (none)) else (none)) else (some true)
def laws_eqPieceS.f (k:Nat) (l0:List (S69)) (l1:List (S69)):Option (Bool):=if (l0.length:Int)=(l1.length:Int) then (laws_eqPieceS.l0 k l0 l1 0) else (some false)
theorem laws_eqPieceS.mono_l:∀ k,(∀ y0 y1 y2,LeO (laws_eqPieceS.l0 k y0 y1 y2) (laws_eqPieceS.l0 (k+1) y0 y1 y2))
 | 0=>fun _ _ _ r h=>by simp [laws_eqPieceS.l0] at h
 | k+1=>by
  have ih0:=laws_eqPieceS.mono_l k
  intro y0 y1 y2
  unfold laws_eqPieceS.l0
  repeat' first
  | (with_reducible exact ih0 _ _ _)
  | (with_reducible exact laws_eqPiece.mono _ _ _ _ _)
  |(with_reducible exact LeO.refl _)|(with_reducible exact LeO.none _)|(with_reducible refine LeO.ite ?_ ?_)|(with_reducible refine LeO.bind ?_ (fun _=>?_))|exact ih0 _ _ _|exact laws_eqPiece.mono _ _ _ _ _|exact LeO.none _|refine LeO.ite ?_ ?_|refine LeO.bind ?_ (fun _=>?_)
theorem laws_eqPieceS.mono:∀ a0 a1 k,LeO (laws_eqPieceS.f k a0 a1) (laws_eqPieceS.f (k+1) a0 a1):=by
 intro a0 a1 k
 have ih0:=laws_eqPieceS.mono_l k
 unfold laws_eqPieceS.f
 repeat' first
   | (with_reducible exact ih0 _ _ _)
   | (with_reducible exact laws_eqPiece.mono _ _ _ _ _)
   |(with_reducible exact LeO.refl _)|(with_reducible exact LeO.none _)|(with_reducible refine LeO.ite ?_ ?_)|(with_reducible refine LeO.bind ?_ (fun _=>?_))|exact ih0 _ _ _|exact laws_eqPiece.mono _ _ _ _ _|exact LeO.none _|refine LeO.ite ?_ ?_|refine LeO.bind ?_ (fun _=>?_)
def laws_eqPieceS.T6:Bool × List (List Nat × List Nat):=(true,[([],[]),([],[]),([0,1],[0,1]),([2],[2]),([],[]),([],[]),([4,5],[4,5]),([6],[6]),([3,7],[3,7]),([8],[8])])
def laws_eqPieceS.B6:List Nat:=[0,0,3,7,0,0,48,112,255,511]
theorem laws_eqPieceS.tab6:rtab .any (opsOf Try.f71 6)=laws_eqPieceS.T6:=by kernel_rfl
theorem laws_eqPieceS.bits6:waitsOk laws_eqPieceS.T6.2 laws_eqPieceS.B6=true:=by kernel_rfl
theorem laws_eqPieceS.calls (k:Nat) (A0:Option Addr) (c0:Nat) (l0:List (S69)) (A1:Option Addr) (c1:Nat) (l1:List (S69)) (r:Bool) (w:World) (hr0:Kd.C k69 w A0 l0.length l0) (hc0:l0.length≤c0) (hr1:Kd.C k69 w A1 l1.length l1) (hc1:l1.length≤c1) (h:laws_eqPieceS.f k l0 l1=some r) :
  Calls Try.prog 71 #[.slice A0 l0.length c0, .slice A1 l1.length c1] w fun e w'=>e = .returned (.bool r)∧Below w.heap.size w w':=by
 have hu69:=Try.underlying69
 have HR0:=am hr0
 have HC0:=am hc0
 clear hr0 hc0
 have HR1:=am hr1
 have HC1:=am hc1
 clear hr1 hc1
 have HB:=am (Below.refl w.heap.size w)
 have H:(if (l0.length:Int)=(l1.length:Int) then (laws_eqPieceS.l0 k l0 l1 0) else (some false))=some r:=h
 clear h
 by_cases c3:(l0.length:Int)=(l1.length:Int)
 ·rw [if_pos c3] at H
  have c3b0:((l0.length:Int) == (l1.length:Int))=true:=beq_iff_eq.mpr c3
  have c3b1:((l0.length:Int) != (l1.length:Int))=false:=bne_eq_false_iff_eq.mpr c3
  have c3b2:(l0.length == l1.length)=true:=by first|simpa using c3|(simp at c3 ⊢;omega)
  clear c3
  have H':=am H
  clear H
  go_enter Try.func71,Try.ntmps71
  go_wp2
  go_loopg [5] k (fun kq v5 w'=>∃ (x5_1:Int),v5 = .int .i64 x5_1∧Aside0 (laws_eqPieceS.l0 kq l0 l1 x5_1=some r)∧Aside0 (kq≤k)∧Aside0 (Below w.heap.size w w'))
  case atStart=>exact ⟨(0),d2,H',⟨Nat.le_refl _⟩,⟨d0⟩⟩
  case round =>
   clear H'
   try clear c1
   try clear p2
   try clear c3
   try clear c3b0
   try clear c3b1
   try clear c3b2
   obtain ⟨x5_1,rfl,HA,HK1,HB⟩:=hrel
   cases gk with
   | zero=>exact absurd HA.out (by simp [laws_eqPieceS.l0])
   | succ k1 =>
    have H:=HA.out
    clear HA
    simp only [laws_eqPieceS.l0] at H
    by_cases c4:x5_1 < (l0.length:Int)
    ·rw [if_pos c4] at H
     have c4b0:decide (x5_1 < (l0.length:Int))=true:=decide_eq_true c4
     clear c4
     by_cases c5:0≤x5_1
     ·rw [if_pos c5] at H
      have c5b0:decide (0≤x5_1)=true:=decide_eq_true c5
      clear c5
      by_cases c6:x5_1 < (l1.length:Int)
      ·rw [if_pos c6] at H
       have c6b0:decide (x5_1 < (l1.length:Int))=true:=decide_eq_true c6
       clear c6
       replace H:=Option.bind_eq_some_iff.mp H
       obtain ⟨t377,A70,H⟩:=H
       replace H:(if t377=true then (laws_eqPieceS.l0 k1 l0 l1 (wrap64 (x5_1+1))) else (some false))=some r:=H
       have A7:=am A70
       clear A70
       by_cases c8:t377=true
       ·subst c8
        have H1:(laws_eqPieceS.l0 k1 l0 l1 (wrap64 (x5_1+1)))=some r:=by rw [if_pos rfl] at H;exact H
        clear H
        have H:=H1
        clear H1
        have H':=am H
        clear H
        try go_wp2
        have n0_:=am (pd HB.out)
        clear HB
        have HB:=n0_
        clear n0_
        have p375:0≤(x5_1:Int):=od d1
        have q375:x5_1 < (l0.length:Int):=od d1
        obtain ⟨ad375,A375_1,c375_1,e375,hx375_0,hx375_1,hl375_1,hi375_1⟩:=at_T69 HR0.out x5_1 p375 q375
        have hw375_1:=hx375_1
        have hw375_0:=hx375_0
        cases e375
        replace hx375_0:=(HB.out.cell (World.block_lt_of_cell? w _ hx375_0)).trans hx375_0
        replace hx375_1:=(HB.out.cell (World.block_lt_of_cell? w _ hx375_1)).trans hx375_1
        have HR375_1:=am hi375_1
        have HC375_1:=am hl375_1
        clear hi375_1 hl375_1
        replace p375:=eq_true p375
        replace q375:=eq_true q375
        have p376:0≤(x5_1:Int):=od d1
        have q376:x5_1 < (l1.length:Int):=od d1
        obtain ⟨ad376,A376_1,c376_1,e376,hx376_0,hx376_1,hl376_1,hi376_1⟩:=at_T69 HR1.out x5_1 p376 q376
        have hw376_1:=hx376_1
        have hw376_0:=hx376_0
        cases e376
        replace hx376_0:=(HB.out.cell (World.block_lt_of_cell? w _ hx376_0)).trans hx376_0
        replace hx376_1:=(HB.out.cell (World.block_lt_of_cell? w _ hx376_1)).trans hx376_1
        have HR376_1:=am hi376_1
        have HC376_1:=am hl376_1
        clear hi376_1 hl376_1
        replace p376:=eq_true p376
        replace q376:=eq_true q376
        refine rS (n:=10) (S:=fun w'=>w'.cell? (ad375.add ((x5_1).toNat*2))=some (.int .i64 ((rd_T69 l0 x5_1).f0))∧w'.cell? ⟨(ad375.add ((x5_1).toNat*2)).block,(ad375.add ((x5_1).toNat*2)).off+1,none⟩=some (.slice A375_1 ((rd_T69 l0 x5_1).f1).length c375_1)∧w'.cell? (ad376.add ((x5_1).toNat*2))=some (.int .i64 ((rd_T69 l1 x5_1).f0))∧w'.cell? ⟨(ad376.add ((x5_1).toNat*2)).block,(ad376.add ((x5_1).toNat*2)).off+1,none⟩=some (.slice A376_1 ((rd_T69 l1 x5_1).f1).length c376_1)) (ds:=[]) [(0,17),(1,18),(2,19),(4,21),(5,22),(6,23),(3,20),(7,24),(8,0),(9,26)] d3 rfl laws_eqPieceS.tab6 laws_eqPieceS.bits6 ⟨((HB.out.cell (World.block_lt_of_cell? w _ hw375_0)).trans hw375_0),((HB.out.cell (World.block_lt_of_cell? w _ hw375_1)).trans hw375_1),((HB.out.cell (World.block_lt_of_cell? w _ hw376_0)).trans hw376_0),((HB.out.cell (World.block_lt_of_cell? w _ hw376_1)).trans hw376_1)⟩ (fun hHeld HT_ HW_=>?_)
        generalize wr.drew=w9 at HB HR375_1 HR376_1 hx375_0 hx375_1 hx376_0 hx376_1 hHeld ⊢
        refine rR ?_
        refine rO (N:=some 25) HT_ rfl rfl d3 d11 (fun K hK=>?_)
        refine goes_ Try.func48 d3 rfl #[.agg #[.int .i64 ((rd_T69 l0 x5_1).f0), .slice A375_1 ((rd_T69 l0 x5_1).f1).length c375_1], .agg #[.int .i64 ((rd_T69 l1 x5_1).f0), .slice A376_1 ((rd_T69 l1 x5_1).f1).length c376_1]] d18 rfl rfl d5 ?_
        with_reducible refine (laws_eqPiece.calls k1 ((rd_T69 l0 x5_1).f0) _ _ ((rd_T69 l0 x5_1).f1) ((rd_T69 l1 x5_1).f0) _ _ ((rd_T69 l1 x5_1).f1) true _ ?side1 ?side2 ?side3 ?side4 A7.out).mono ?_
        (case side1=>repeat (first|exact (Kd.C_below HR375_1.out HB.out)|(with_reducible refine Kd.C_alloc ?_ _)|(with_reducible refine Kd.C_drewN ?_ _)|(with_reducible refine Kd.C_drew ?_)))
        (case side2=>exact HC375_1.out)
        (case side3=>repeat (first|exact (Kd.C_below HR376_1.out HB.out)|(with_reducible refine Kd.C_alloc ?_ _)|(with_reducible refine Kd.C_drewN ?_ _)|(with_reducible refine Kd.C_drew ?_)))
        (case side4=>exact HC376_1.out)
        rintro e w10 ⟨rfl,hb⟩
        refine ⟨_,rfl,?_⟩
        have n0_:=am (pu d0 hb)
        clear HB
        have HB:=n0_
        clear n0_
        (try clear hb)
        (try clear hb2)
        (try clear hk)
        (try clear hi)
        refine hK.out _ _ ⟨((HB.out.cell (World.block_lt_of_cell? w _ hw375_0)).trans hw375_0),((HB.out.cell (World.block_lt_of_cell? w _ hw375_1)).trans hw375_1),((HB.out.cell (World.block_lt_of_cell? w _ hw376_0)).trans hw376_0),((HB.out.cell (World.block_lt_of_cell? w _ hw376_1)).trans hw376_1)⟩ (fun hHeld=>?_)
        clear hK K
        refine rN (a':=?_) ?_ ?_
        rotate_left
        ·show Act.put _ (some 25) _=_
         simp only [Act.put,q1,q2,q3,i64_w,i32_w]
         rfl
        refine rR ?_
        refine rD HT_ d3 ?_
        try go_wp2
        go_roundg k1
        case measure=>have:=HK1.out;omega
        case rel=>exact ⟨(wrap64 (x5_1+1)),d2,H',⟨d30⟩,⟨d0⟩⟩
       replace c8:=Bool.eq_false_iff.mpr c8
       subst c8
       have H1:(some false)=some r:=by rw [if_neg (show ¬ (false=true) by decide)] at H;exact H
       clear H
       have H:=H1
       clear H1
       obtain rfl:=Option.some.inj H
       try go_wp2
       have n0_:=am (pd HB.out)
       clear HB
       have HB:=n0_
       clear n0_
       have p375:0≤(x5_1:Int):=od d1
       have q375:x5_1 < (l0.length:Int):=od d1
       obtain ⟨ad375,A375_1,c375_1,e375,hx375_0,hx375_1,hl375_1,hi375_1⟩:=at_T69 HR0.out x5_1 p375 q375
       have hw375_1:=hx375_1
       have hw375_0:=hx375_0
       cases e375
       replace hx375_0:=(HB.out.cell (World.block_lt_of_cell? w _ hx375_0)).trans hx375_0
       replace hx375_1:=(HB.out.cell (World.block_lt_of_cell? w _ hx375_1)).trans hx375_1
       have HR375_1:=am hi375_1
       have HC375_1:=am hl375_1
       clear hi375_1 hl375_1
       replace p375:=eq_true p375
       replace q375:=eq_true q375
       have p376:0≤(x5_1:Int):=od d1
       have q376:x5_1 < (l1.length:Int):=od d1
       obtain ⟨ad376,A376_1,c376_1,e376,hx376_0,hx376_1,hl376_1,hi376_1⟩:=at_T69 HR1.out x5_1 p376 q376
       have hw376_1:=hx376_1
       have hw376_0:=hx376_0
       cases e376
       replace hx376_0:=(HB.out.cell (World.block_lt_of_cell? w _ hx376_0)).trans hx376_0
       replace hx376_1:=(HB.out.cell (World.block_lt_of_cell? w _ hx376_1)).trans hx376_1
       have HR376_1:=am hi376_1
       have HC376_1:=am hl376_1
       clear hi376_1 hl376_1
       replace p376:=eq_true p376
       replace q376:=eq_true q376
       refine rS (n:=10) (S:=fun w'=>w'.cell? (ad375.add ((x5_1).toNat*2))=some (.int .i64 ((rd_T69 l0 x5_1).f0))∧w'.cell? ⟨(ad375.add ((x5_1).toNat*2)).block,(ad375.add ((x5_1).toNat*2)).off+1,none⟩=some (.slice A375_1 ((rd_T69 l0 x5_1).f1).length c375_1)∧w'.cell? (ad376.add ((x5_1).toNat*2))=some (.int .i64 ((rd_T69 l1 x5_1).f0))∧w'.cell? ⟨(ad376.add ((x5_1).toNat*2)).block,(ad376.add ((x5_1).toNat*2)).off+1,none⟩=some (.slice A376_1 ((rd_T69 l1 x5_1).f1).length c376_1)) (ds:=[]) [(0,17),(1,18),(2,19),(4,21),(5,22),(6,23),(3,20),(7,24),(8,0),(9,26)] d3 rfl laws_eqPieceS.tab6 laws_eqPieceS.bits6 ⟨((HB.out.cell (World.block_lt_of_cell? w _ hw375_0)).trans hw375_0),((HB.out.cell (World.block_lt_of_cell? w _ hw375_1)).trans hw375_1),((HB.out.cell (World.block_lt_of_cell? w _ hw376_0)).trans hw376_0),((HB.out.cell (World.block_lt_of_cell? w _ hw376_1)).trans hw376_1)⟩ (fun hHeld HT_ HW_=>?_)
       generalize wr.drew=w11 at HB HR375_1 HR376_1 hx375_0 hx375_1 hx376_0 hx376_1 hHeld ⊢
       refine rR ?_
       refine rO (N:=some 25) HT_ rfl rfl d3 d11 (fun K hK=>?_)
       refine goes_ Try.func48 d3 rfl #[.agg #[.int .i64 ((rd_T69 l0 x5_1).f0), .slice A375_1 ((rd_T69 l0 x5_1).f1).length c375_1], .agg #[.int .i64 ((rd_T69 l1 x5_1).f0), .slice A376_1 ((rd_T69 l1 x5_1).f1).length c376_1]] d18 rfl rfl d5 ?_
       with_reducible refine (laws_eqPiece.calls k1 ((rd_T69 l0 x5_1).f0) _ _ ((rd_T69 l0 x5_1).f1) ((rd_T69 l1 x5_1).f0) _ _ ((rd_T69 l1 x5_1).f1) false _ ?side1 ?side2 ?side3 ?side4 A7.out).mono ?_
       (case side1=>repeat (first|exact (Kd.C_below HR375_1.out HB.out)|(with_reducible refine Kd.C_alloc ?_ _)|(with_reducible refine Kd.C_drewN ?_ _)|(with_reducible refine Kd.C_drew ?_)))
       (case side2=>exact HC375_1.out)
       (case side3=>repeat (first|exact (Kd.C_below HR376_1.out HB.out)|(with_reducible refine Kd.C_alloc ?_ _)|(with_reducible refine Kd.C_drewN ?_ _)|(with_reducible refine Kd.C_drew ?_)))
       (case side4=>exact HC376_1.out)
       rintro e w12 ⟨rfl,hb⟩
       refine ⟨_,rfl,?_⟩
       have n0_:=am (pu d0 hb)
       clear HB
       have HB:=n0_
       clear n0_
       (try clear hb)
       (try clear hb2)
       (try clear hk)
       (try clear hi)
       refine hK.out _ _ ⟨((HB.out.cell (World.block_lt_of_cell? w _ hw375_0)).trans hw375_0),((HB.out.cell (World.block_lt_of_cell? w _ hw375_1)).trans hw375_1),((HB.out.cell (World.block_lt_of_cell? w _ hw376_0)).trans hw376_0),((HB.out.cell (World.block_lt_of_cell? w _ hw376_1)).trans hw376_1)⟩ (fun hHeld=>?_)
       clear hK K
       refine rN (a':=?_) ?_ ?_
       rotate_left
       ·show Act.put _ (some 25) _=_
        simp only [Act.put,q1,q2,q3,i64_w,i32_w]
        rfl
       refine rR ?_
       refine rD HT_ d3 ?_
       try go_wp2
       go_ret
       exact ⟨d4,d0⟩
      rw [if_neg c6] at H
      exact absurd H d20
     rw [if_neg c5] at H
     exact absurd H d20
    rw [if_neg c4] at H
    have c4b0:decide (x5_1 < (l0.length:Int))=false:=decide_eq_false c4
    clear c4
    obtain rfl:=Option.some.inj H
    go_wp2
    go_ret
    exact ⟨d4,d0⟩
 rw [if_neg c3] at H
 have c3b0:((l0.length:Int) == (l1.length:Int))=false:=beq_eq_false_iff_ne.mpr c3
 have c3b1:((l0.length:Int) != (l1.length:Int))=true:=bne_iff_ne.mpr c3
 have c3b2:(l0.length == l1.length)=false:=by first|simpa using c3|(simp at c3 ⊢;omega)
 obtain rfl:=Option.some.inj H
 go_enter Try.func71,Try.ntmps71
 go_wp2
 go_ret
 exact ⟨d4,d0⟩

section
open Go.Proofs.Ytajikfnpcobnpaa.Gf Go.Proofs.Ytajikfnpcobnpaa.Kit
def markPS:Int→List S69→List S69
 | _,[]=>[]
 | a,p :: l=>⟨a,markB (a+1) p.f1.length⟩ :: markPS (a+1+(p.f1.length:Nat)) l
def totPS:List S69→Nat
 | []=>0
 | p :: l=>1+p.f1.length+totPS l
theorem totPS_append (a b:List S69):totPS (a ++ b)=totPS a+totPS b:=by
 induction a with
 | nil=>simp [totPS]
 | cons x a ih=>simp [totPS,ih];omega
theorem markPS_append (a:Int) (l m:List S69):markPS a (l ++ m)=markPS a l ++ markPS (a+(totPS l:Nat)) m:=by
 induction l generalizing a with
 | nil=>simp [markPS,totPS]
 | cons x l ih =>
  simp only [List.cons_append,markPS,totPS,ih]
  rw [show a+1+(x.f1.length:Int)+((totPS l:Nat):Int)=a+((1+x.f1.length+totPS l:Nat):Int) by omega]
theorem markPS_length (a:Int) (l:List S69):(markPS a l).length=l.length:=by
 induction l generalizing a with
 | nil=>rfl
 | cons x l ih=>simp [markPS,ih]
def MarkPPost (w0 w:World) (P:Nat→Prop) (u:Value) (r:Int) (l:List S69) (e:Ending) (w':World):Prop :=
 e = .returned (.int .i64 r)∧Kd.S k69 69 w' w0.heap.size P u l∧Below w0.heap.size w0 w'∧Kept w w' P
def MarkPRel (w0 w:World) (P:Nat→Prop) (u:Value) (a:Int) (l:List S69) (i:Nat) (wr:World):Prop :=
 Kd.S k69 69 wr w0.heap.size P u (markPS a (l.take i) ++ l.drop i)∧Below w0.heap.size w0 wr∧Kept w wr P
/-- A piece's number is written. -/
theorem pc_node {W:World} {base g n cap:Nat} {P:Nat→Prop} {xs:List S69} (h:Kd.S k69 69 W base P (.slice (some ⟨g,0,none⟩) n cap) xs) (i:Nat) (hi:i < n) (a:Int) :
  W.cell? ⟨g,i*2,none⟩=some (.int .i64 (xs.getD i z69).f0)∧W.frozen? ⟨g,i*2,none⟩=false∧Kd.S k69 69 (W.setCell ⟨g,i*2,none⟩ (.int .i64 a)) base P (.slice (some ⟨g,0,none⟩) n cap) (xs.set i ⟨a,(xs.getD i z69).f1⟩)∧W.grownBy (W.setCell ⟨g,i*2,none⟩ (.int .i64 a)) (some g):=by
 obtain ⟨oki,c,hcl,hM,hcc,hfr,hoki,hH⟩:=Kd.S_elem h z69 (i:Int) d10 d10
 rw [Int.toNat_natCast] at hM hcc hfr
 obtain ⟨v1,rfl,hR⟩:=k69_openM hM
 have hsz:k69.sz=2:=rfl
 have h0:=hcc 0 _ rfl
 have hf:=hfr 0
 rw [hsz,Nat.add_zero] at h0 hf
 have hs:=Kd.S_seg0 (seg:=[.int .i64 a]) (j:=0) (x':=⟨a,(xs.getD i z69).f1⟩) hH d10 d10 (by rw [hsz];simp) (k69_mkM W base oki ⟨a,(xs.getD i z69).f1⟩ hR) (fun _ h=>h)
 rw [Int.toNat_natCast,hsz,Nat.add_zero] at hs
 exact ⟨h0,hf,hs.1,hs.2⟩
theorem pc_unlend {e base g n cap:Nat} {ok oki:Nat→Prop} {W:World} {xs:List S69} {i:Int} {c:List Value}
  (hH:Kd.H k69 e W base ok (.slice (some ⟨g,0,none⟩) n cap) xs i oki c) (h0:0≤i) (h1:i < n) {x':S69} (hM:k69.M W base oki x' c) :
  Kd.S k69 e W base ok (.slice (some ⟨g,0,none⟩) n cap) (xs.set i.toNat x'):=by
 have h:=Kd.S_seg0 (seg:=[]) (j:=0) (x':=x') hH h0 h1 d20 (by simpa using hM) (fun _ h=>h)
 exact h.1
theorem pc_step {w0 w wr w1:World} {P oki:Nat→Prop} {g n cap:Nat} {v:Value} {a:Int} {l:List S69} {i:Nat} (hi:i < l.length) (hn:n=l.length)
  (hH:Kd.H k69 69 wr w0.heap.size P (.slice (some ⟨g,0,none⟩) n cap) ((markPS a (l.take i) ++ l.drop i).set i ⟨a+(totPS (l.take i):Nat),(l[i]'hi).f1⟩) (i:Int) oki [.int .i64 (a+(totPS (l.take i):Nat)),v]) (hoP:∀ k,oki k→P k)
  (hR:Kd.R (Kd.int .u8) 5 wr w0.heap.size oki v (l[i]'hi).f1) (hk:Kept w wr P)
  (hR1:Kd.R (Kd.int .u8) 5 w1 w0.heap.size (fun k_=>(oki k_∨wr.heap.size≤k_)) v (markB (a+(totPS (l.take i):Nat)+1) (l[i]'hi).f1.length)) (hB1:Below w0.heap.size w0 w1) (hk1:Kept wr w1 (fun k_=>oki k_)) :
  MarkPRel w0 w P (.slice (some ⟨g,0,none⟩) n cap) a l (i+1) w1:=by
 have hM:k69.M w1 w0.heap.size oki ⟨a+(totPS (l.take i):Nat),markB (a+(totPS (l.take i):Nat)+1) (l[i]'hi).f1.length⟩ [.int .i64 (a+(totPS (l.take i):Nat)),v] :=
  k69_mkM w1 w0.heap.size oki ⟨a+(totPS (l.take i):Nat),markB (a+(totPS (l.take i):Nat)+1) (l[i]'hi).f1.length⟩ (Kd.R_mono (Kd.R_tight rfl hR1) (fun k hk=>hR.1 k hk.symm))
 have hH1:=Kd.H_kept hH hk1 (fun k _ hn h=>hn h)
 have hS:=pc_unlend hH1 d10 d10 hM
 refine ⟨?_,hB1,Kept.then_ hk hk1 (fun k h=>.inl (hoP k h))⟩
 have e:((markPS a (l.take i) ++ l.drop i).set i ⟨a+(totPS (l.take i):Nat),(l[i]'hi).f1⟩).set ((i:Int)).toNat ⟨a+(totPS (l.take i):Nat),markB (a+(totPS (l.take i):Nat)+1) (l[i]'hi).f1.length⟩=markPS a (l.take (i+1)) ++ l.drop (i+1):=by
  have hl:(markPS a (l.take i)).length=i:=by rw [markPS_length,List.length_take];omega
  rw [Int.toNat_natCast,List.set_set,List.set_append_right _ _ d10,hl,Nat.sub_self,List.drop_eq_getElem_cons hi,List.set_cons_zero,List.take_succ_eq_append_getElem hi,markPS_append]
  simp [markPS]
 rw [e] at hS
 exact hS
set_option maxHeartbeats 4000000 in
theorem laws_markPieceS.calls (P:Nat→Prop) (u:Value) (l:List S69) (a:Int) (w0 w:World) (hB:Below w0.heap.size w0 w) (hS:Kd.S k69 69 w w0.heap.size P u l)
  (hm:∀ (l:List Int) (a:Int),0≤a→a+l.length < 4611686018427387904→∃ k,laws_markByteS.f k l a=some (a+(l.length:Nat),markB a l.length))
  (ha:0≤a) (ht:a+(totPS l:Nat) < 4611686018427387904) (hl:l.length < 2305843009213693952) :
  Calls Try.prog 72 #[u, .int .i64 a] w (MarkPPost w0 w P u (a+(totPS l:Nat)) (markPS a l)):=by
 obtain ⟨A,c,rfl⟩:=Kd.S_slice hS
 have HS:=am hS
 have HT:=am ht
 have HL:=am hl
 have HA:=am ha
 have HB:=am hB
 have HM:=am hm
 clear hS ht hl ha hB hm
 have hu:=Try.underlying69
 go_enter Try.func72,Try.ntmps72
 go_wp2
 go_loopw [1,5] (fun v1 v5 wr=>∃ i:Nat,i≤l.length∧v5 = .int .i64 i∧v1 = .int .i64 (a+(totPS (l.take i):Nat))∧Aside0 (MarkPRel w0 w P (.slice A l.length c) a l i wr)) (fun _ v5 _=>l.length - (intOf v5).toNat)
 case atStart=>exact ⟨0,Nat.zero_le _,rfl,by simp [totPS],⟨⟨by simpa [markPS] using HS.out,HB.out,Kept.refl _ _⟩⟩⟩
 case round =>
  obtain ⟨i,hi,rfl,rfl,HR⟩:=hrel
  by_cases hlt:i < l.length
  ·obtain ⟨hSr,hBr,hKr⟩:=HR.out
   have hlen:(markPS a (l.take i) ++ l.drop i).length=l.length:=by rw [List.length_append,markPS_length,List.length_take,List.length_drop];omega
   obtain ⟨g,cap,eg,hbg,_,_⟩:=Kd.S_form hSr d10
   rw [hlen] at eg
   injection eg with eA _ ec
   subst eA ec
   have hget:(markPS a (l.take i) ++ l.drop i).getD i z69=l[i]:=by
    have hl2:(markPS a (l.take i)).length=i:=by rw [markPS_length,List.length_take];omega
    rw [List.getD_eq_getElem?_getD,List.getElem?_append_right d10,hl2,Nat.sub_self,List.getElem?_drop,Nat.add_zero,List.getElem?_eq_getElem hlt]
    rfl
   obtain ⟨hc0,hfr,hS1,hg1⟩:=pc_node hSr i hlt (a+(totPS (l.take i):Nat))
   rw [hget] at hc0 hS1
   have hPg:P g:=(Kd.S_R hSr).1 g rfl
   have hlt2:(i:Int) < (l.length:Int):=by omega
   have hB1:Below w0.heap.size w0 (wr.setCell ⟨g,i*2,none⟩ (.int .i64 (a+(totPS (l.take i):Nat)))):=pt hBr hbg
   have hK1:Kept w (wr.setCell ⟨g,i*2,none⟩ (.int .i64 (a+(totPS (l.take i):Nat)))) P:=Kept.setCell hKr (.inl hPg) _
   obtain ⟨oki,cc,hcl,hM,hcell,hoki,hH⟩:=Kd.S_lend hS1 z69 (i:Int) d10 d10
   rw [Int.toNat_natCast] at hM hcell
   have hget2:((markPS a (l.take i) ++ l.drop i).set i ⟨a+(totPS (l.take i):Nat),(l[i]'hlt).f1⟩).getD i z69=⟨a+(totPS (l.take i):Nat),(l[i]'hlt).f1⟩:=by
    rw [List.getD_eq_getElem?_getD,List.getElem?_set_self d10]
    rfl
   rw [hget2] at hM
   obtain ⟨v,rfl,hR⟩:=k69_openM hM
   have hsz:k69.sz=2:=rfl
   have hc1:=hcell 1 v rfl
   have hc2:=hcell 0 _ rfl
   rw [hsz] at hc1
   have htake:totPS (l.take (i+1))=totPS (l.take i)+1+l[i].f1.length:=by
    rw [List.take_succ_eq_append_getElem hlt,totPS_append];simp [totPS];omega
   have hle:totPS (l.take (i+1))≤totPS l:=by
    have e:=congrArg totPS (List.take_append_drop (i+1) l)
    rw [totPS_append] at e
    omega
   have ha0:=HA.out
   have ht0:=HT.out
   obtain ⟨k,hk⟩:=HM.out l[i].f1 (a+(totPS (l.take i):Nat)+1) d10 d10
   have HK:=am hk
   have HH:=am hH
   have HRR:=am hR
   have HOP:=am (fun k hk=>(hoki k hk).1)
   have HKr:=am hK1
   have HBr:=am hB1
   have HTK:=am htake
   have HC1:=am hc1
   have htl:totPS (l.take i)≤totPS l:=by omega
   clear hk hH hR hoki hKr hBr hSr HR hcell hget hget2 hle htake hlen hsz hcl hS1 hg1 hB1 hK1 hc1 hc2
   obtain ⟨x0,hx0⟩:∃ x,x=l[i].f0:=⟨_,rfl⟩
   rw [← hx0] at hc0
   have HX0:=am hx0
   clear hx0
   have hi9:i≤9223372036854775806:=by have:=HL.out;omega
   have ht9:totPS (l.take i) < 4611686018427387904:=by omega
   obtain ⟨t0,ht0e⟩:∃ x:Int,x=a+(totPS (l.take i):Nat):=⟨_,rfl⟩
   have ht0l:0≤t0∧t0 < 4611686018427387904:=by omega
   rw [← ht0e]
   have HT0:=am ht0e
   clear ht0e
   go_upto_region 6 with (fail)
   have ht0e:=HT0.out
   subst ht0e
   clear HT0 hc0
   have hTG:=HH
   clear hTG
   generalize wr.setCell ⟨g,i*2,none⟩ (.int .i64 (a+(totPS (l.take i):Nat)))=W1 at HH HRR HKr HBr HC1 ⊢
   have hc1:=HC1.out
   obtain ⟨li,hli⟩:∃ x,x=l[i].f1:=⟨_,rfl⟩
   have HLI:=am hli
   clear hli
   obtain ⟨t0,ht0e⟩:∃ x:Int,x=a+(totPS (l.take i):Nat):=⟨_,rfl⟩
   rw [← ht0e]
   rw [← ht0e] at ht0l
   have HT0:=am ht0e
   clear ht0e
   go_wp2_with (go_at_call 41;rw [HT0.out];refine (laws_markByteS.calls k oki v _ _ _ _ w0 _ HBr.out HRR.out HK.out).mono ?_;rintro e w1 ⟨rfl,hR1,hB1,hk1⟩)
   have HR1:=am (pc_step hlt rfl HH.out HOP.out HRR.out HKr.out hR1 hB1 hk1)
   clear hR1 hB1 hk1
   go_wp2
   go_roundw
   case rel=>exact ⟨i+1,d10,by go_num,by rw [HTK.out];go_num,HR1⟩
   case measure=>simp [intOf];omega
  have e:i=l.length:=by omega
  subst e
  go_wp2
  go_ret
  obtain ⟨hSr,hBr,hKr⟩:=HR.out
  rw [List.take_length,List.drop_length,List.append_nil] at hSr
  exact ⟨by rw [List.take_length];rfl,hSr,hBr,hKr⟩
end

end Go.Proofs.Ytajikfnpcobnpaa.PFnExactDecodeMsr
-- HALVED
-- SQUEEZED
-- SQUEEZED2
-- SQUEEZED3
-- SQUEEZED4
-- SQUEEZED5
-- SQUEEZED6
