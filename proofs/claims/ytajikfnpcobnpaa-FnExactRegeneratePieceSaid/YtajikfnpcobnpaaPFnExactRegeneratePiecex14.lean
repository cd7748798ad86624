-- Laid by a program of this session.
import Derived.Test.YtajikfnpcobnpaaPFnExactRegeneratePiecex0
import Derived.Test.YtajikfnpcobnpaaPFnExactRegeneratePiecex1
import Derived.Test.YtajikfnpcobnpaaPFnExactRegeneratePiecex7
import Derived.Test.YtajikfnpcobnpaaPFnExactRegeneratePiecex8
import Derived.Test.YtajikfnpcobnpaaPFnExactRegeneratePiecex11
import Derived.Test.YtajikfnpcobnpaaPFnExactRegeneratePiecex12
import Derived.Test.YtajikfnpcobnpaaPFnExactRegeneratePiecex13
namespace Go.Proofs.Ytajikfnpcobnpaa.PFnExactRegeneratePiece
open Go.RowKit Go.Proofs.YtajikfnpcobnpaaW.PrintWords Go.Proofs.YtajikfnpcobnpaaW.PrintLast Go.Proofs.YtajikfnpcobnpaaW.PrintMore
attribute [local go_sem] max2_int min2_int max_two min_two max_three min_three max_four min_four   -- for this text's walks alone
set_option linter.unusedVariables false
set_option maxHeartbeats 8000000
set_option maxRecDepth 100000
set_option linter.unusedSimpArgs false

mutual
def laws_FnExactRegeneratePiece.j0:Nat→Int→List (S153)→Bool→List (S147)→Bool→Bool→Int→Int→Int→List Int→Int→List Int→Option (Bool)
 | 0,_,_,_,_,_,_,_,_,_,_,_,_=>none
 | k+1,x1,x2,x9,x10,x12,x50,x396000,x396001,x408000,x408001,x419000,x419001=>if x50=true then (some false) else ((laws_toHelpS.f k x2).bind fun t420=>((laws_eqHelpS.f k x10 t420).bind fun t423=>(if t423=true then ((laws_markHelpS.f k x10 1).bind fun bt424=>(if bt424.1 < 0 then (laws_FnExactRegeneratePiece.j1 k x1 x2 x9 true x396000 x396001 x408000 x408001 x419000 x419001) else ((laws_eqPiece.f k x419000 x419001 x408000 x408001).bind fun t426=>(if t426=true then (laws_FnExactRegeneratePiece.j1 k x1 x2 x9 (x12 != x9) x396000 x396001 x408000 x408001 x419000 x419001) else (laws_FnExactRegeneratePiece.j1 k x1 x2 x9 true x396000 x396001 x408000 x408001 x419000 x419001))))) else (some false))))
def laws_FnExactRegeneratePiece.j1:Nat→Int→List (S153)→Bool→Bool→Int→Int→Int→List Int→Int→List Int→Option (Bool)
 | 0,_,_,_,_,_,_,_,_,_,_=>none
 | k+1,x1,x2,x9,x71,x396000,x396001,x408000,x408001,x419000,x419001=>if x71=true then (some false) else ((laws_markPiece.f k x419000 x419001 1).bind fun bt427=>((laws_heldPiece.f k x419000 bt427.2 1).bind fun t429=>(if t429 < 0 then (some false) else (if t429=bt427.1 then ((laws_toMsr.f x396000 x396001).bind fun bt430=>((laws_toHelpS.f k x2).bind fun t432=>((impl_RegeneratePiece.f k bt430.1 bt430.2 x1 t432).bind fun bt435=>((laws_eqPiece.f k bt435.1 bt435.2.1 x408000 x408001).bind fun t441=>(if t441=true then (laws_FnExactRegeneratePiece.j2 k bt427.1 (bt435.2.2 != x9) x419000 bt427.2) else (laws_FnExactRegeneratePiece.j2 k bt427.1 true x419000 bt427.2)))))) else (some false)))))
def laws_FnExactRegeneratePiece.j2:Nat→Int→Bool→Int→List Int→Option (Bool)
 | 0,_,_,_,_=>none
 | k+1,x14,x100,x419000,x419001=>if x100=true then (some false) else ((laws_heldPiece.f k x419000 x419001 1).bind fun t442=>(if t442 < 0 then (some false) else (if t442=x14 then (some true) else (some false))))
end
def laws_FnExactRegeneratePiece.f (k:Nat) (a0_0:Int) (a0_1:Int) (a1:Int) (l2:List (S153)):Option (Bool):=(laws_szHelpS.f l2 1048576).bind fun t396=>(if t396 < 0 then (some true) else ((laws_toMsr.f a0_0 a0_1).bind fun bt397=>((laws_toHelpS.f k l2).bind fun t399=>((spec_RegeneratePiece.f k bt397.1 bt397.2 a1 t399).bind fun bt402=>((laws_toHelpS.f k l2).bind fun t408=>((laws_toMsr.f a0_0 a0_1).bind fun bt411=>((impl_RegeneratePiece.f k bt411.1 bt411.2 a1 t408).bind fun bt413=>((laws_eqPiece.f k bt413.1 bt413.2.1 bt402.1 bt402.2.1).bind fun t419=>(if t419=true then (laws_FnExactRegeneratePiece.j0 k a1 l2 bt402.2.2 t408 bt413.2.2 (bt413.2.2 != bt402.2.2) a0_0 a0_1 bt402.1 bt402.2.1 bt413.1 bt413.2.1) else (laws_FnExactRegeneratePiece.j0 k a1 l2 bt402.2.2 t408 bt413.2.2 true a0_0 a0_1 bt402.1 bt402.2.1 bt413.1 bt413.2.1))))))))))
theorem laws_FnExactRegeneratePiece.mono_l:∀ k,(∀ y0 y1 y2 y3 y4 y5 y6 y7 y8 y9 y10 y11,LeO (laws_FnExactRegeneratePiece.j0 k y0 y1 y2 y3 y4 y5 y6 y7 y8 y9 y10 y11) (laws_FnExactRegeneratePiece.j0 (k+1) y0 y1 y2 y3 y4 y5 y6 y7 y8 y9 y10 y11))∧(∀ y0 y1 y2 y3 y4 y5 y6 y7 y8 y9,LeO (laws_FnExactRegeneratePiece.j1 k y0 y1 y2 y3 y4 y5 y6 y7 y8 y9) (laws_FnExactRegeneratePiece.j1 (k+1) y0 y1 y2 y3 y4 y5 y6 y7 y8 y9))∧(∀ y0 y1 y2 y3,LeO (laws_FnExactRegeneratePiece.j2 k y0 y1 y2 y3) (laws_FnExactRegeneratePiece.j2 (k+1) y0 y1 y2 y3))
 | 0=>⟨fun _ _ _ _ _ _ _ _ _ _ _ _ r h=>by simp [laws_FnExactRegeneratePiece.j0] at h,fun _ _ _ _ _ _ _ _ _ _ r h=>by simp [laws_FnExactRegeneratePiece.j1] at h,fun _ _ _ _ r h=>by simp [laws_FnExactRegeneratePiece.j2] at h⟩
 | k+1=>by
  obtain ⟨ih0,ih1,ih2⟩:=laws_FnExactRegeneratePiece.mono_l k
  refine ⟨?_,?_,?_⟩
  ·intro y0 y1 y2 y3 y4 y5 y6 y7 y8 y9 y10 y11
   unfold laws_FnExactRegeneratePiece.j0
   repeat' first
   | (with_reducible exact ih0 _ _ _ _ _ _ _ _ _ _ _ _)
   | (with_reducible exact ih1 _ _ _ _ _ _ _ _ _ _)
   | (with_reducible exact ih2 _ _ _ _)
   | (with_reducible exact impl_RegeneratePiece.mono _ _ _ _ _)
   | (with_reducible exact laws_eqHelpS.mono _ _ _)
   | (with_reducible exact laws_eqPiece.mono _ _ _ _ _)
   | (with_reducible exact laws_heldPiece.mono _ _ _ _)
   | (with_reducible exact laws_markHelpS.mono _ _ _)
   | (with_reducible exact laws_markPiece.mono _ _ _ _)
   | (with_reducible exact laws_toHelpS.mono _ _)
   | (with_reducible exact spec_RegeneratePiece.mono _ _ _ _ _)
   |(with_reducible exact LeO.refl _)|(with_reducible exact LeO.none _)|(with_reducible refine LeO.ite ?_ ?_)|(with_reducible refine LeO.bind ?_ (fun _=>?_))|exact ih0 _ _ _ _ _ _ _ _ _ _ _ _|exact ih1 _ _ _ _ _ _ _ _ _ _|exact ih2 _ _ _ _|exact impl_RegeneratePiece.mono _ _ _ _ _|exact laws_eqHelpS.mono _ _ _|exact laws_eqPiece.mono _ _ _ _ _|exact laws_heldPiece.mono _ _ _ _|exact laws_markHelpS.mono _ _ _|exact laws_markPiece.mono _ _ _ _|exact laws_toHelpS.mono _ _|exact spec_RegeneratePiece.mono _ _ _ _ _|exact LeO.none _|refine LeO.ite ?_ ?_|refine LeO.bind ?_ (fun _=>?_)
  ·intro y0 y1 y2 y3 y4 y5 y6 y7 y8 y9
   unfold laws_FnExactRegeneratePiece.j1
   repeat' first
   | (with_reducible exact ih0 _ _ _ _ _ _ _ _ _ _ _ _)
   | (with_reducible exact ih1 _ _ _ _ _ _ _ _ _ _)
   | (with_reducible exact ih2 _ _ _ _)
   | (with_reducible exact impl_RegeneratePiece.mono _ _ _ _ _)
   | (with_reducible exact laws_eqHelpS.mono _ _ _)
   | (with_reducible exact laws_eqPiece.mono _ _ _ _ _)
   | (with_reducible exact laws_heldPiece.mono _ _ _ _)
   | (with_reducible exact laws_markHelpS.mono _ _ _)
   | (with_reducible exact laws_markPiece.mono _ _ _ _)
   | (with_reducible exact laws_toHelpS.mono _ _)
   | (with_reducible exact spec_RegeneratePiece.mono _ _ _ _ _)
   |(with_reducible exact LeO.refl _)|(with_reducible exact LeO.none _)|(with_reducible refine LeO.ite ?_ ?_)|(with_reducible refine LeO.bind ?_ (fun _=>?_))|exact ih0 _ _ _ _ _ _ _ _ _ _ _ _|exact ih1 _ _ _ _ _ _ _ _ _ _|exact ih2 _ _ _ _|exact impl_RegeneratePiece.mono _ _ _ _ _|exact laws_eqHelpS.mono _ _ _|exact laws_eqPiece.mono _ _ _ _ _|exact laws_heldPiece.mono _ _ _ _|exact laws_markHelpS.mono _ _ _|exact laws_markPiece.mono _ _ _ _|exact laws_toHelpS.mono _ _|exact spec_RegeneratePiece.mono _ _ _ _ _|exact LeO.none _|refine LeO.ite ?_ ?_|refine LeO.bind ?_ (fun _=>?_)
  intro y0 y1 y2 y3
  unfold laws_FnExactRegeneratePiece.j2
  repeat' first
  | (with_reducible exact ih0 _ _ _ _ _ _ _ _ _ _ _ _)
  | (with_reducible exact ih1 _ _ _ _ _ _ _ _ _ _)
  | (with_reducible exact ih2 _ _ _ _)
  | (with_reducible exact impl_RegeneratePiece.mono _ _ _ _ _)
  | (with_reducible exact laws_eqHelpS.mono _ _ _)
  | (with_reducible exact laws_eqPiece.mono _ _ _ _ _)
  | (with_reducible exact laws_heldPiece.mono _ _ _ _)
  | (with_reducible exact laws_markHelpS.mono _ _ _)
  | (with_reducible exact laws_markPiece.mono _ _ _ _)
  | (with_reducible exact laws_toHelpS.mono _ _)
  | (with_reducible exact spec_RegeneratePiece.mono _ _ _ _ _)
  |(with_reducible exact LeO.refl _)|(with_reducible exact LeO.none _)|(with_reducible refine LeO.ite ?_ ?_)|(with_reducible refine LeO.bind ?_ (fun _=>?_))|exact ih0 _ _ _ _ _ _ _ _ _ _ _ _|exact ih1 _ _ _ _ _ _ _ _ _ _|exact ih2 _ _ _ _|exact impl_RegeneratePiece.mono _ _ _ _ _|exact laws_eqHelpS.mono _ _ _|exact laws_eqPiece.mono _ _ _ _ _|exact laws_heldPiece.mono _ _ _ _|exact laws_markHelpS.mono _ _ _|exact laws_markPiece.mono _ _ _ _|exact laws_toHelpS.mono _ _|exact spec_RegeneratePiece.mono _ _ _ _ _|exact LeO.none _|refine LeO.ite ?_ ?_|refine LeO.bind ?_ (fun _=>?_)
theorem laws_FnExactRegeneratePiece.mono:∀ a0 a1 a2 a3 k,LeO (laws_FnExactRegeneratePiece.f k a0 a1 a2 a3) (laws_FnExactRegeneratePiece.f (k+1) a0 a1 a2 a3):=by
 intro a0 a1 a2 a3 k
 obtain ⟨ih0,ih1,ih2⟩:=laws_FnExactRegeneratePiece.mono_l k
 unfold laws_FnExactRegeneratePiece.f
 repeat' first
   | (with_reducible exact ih0 _ _ _ _ _ _ _ _ _ _ _ _)
   | (with_reducible exact ih1 _ _ _ _ _ _ _ _ _ _)
   | (with_reducible exact ih2 _ _ _ _)
   | (with_reducible exact impl_RegeneratePiece.mono _ _ _ _ _)
   | (with_reducible exact laws_eqHelpS.mono _ _ _)
   | (with_reducible exact laws_eqPiece.mono _ _ _ _ _)
   | (with_reducible exact laws_heldPiece.mono _ _ _ _)
   | (with_reducible exact laws_markHelpS.mono _ _ _)
   | (with_reducible exact laws_markPiece.mono _ _ _ _)
   | (with_reducible exact laws_toHelpS.mono _ _)
   | (with_reducible exact spec_RegeneratePiece.mono _ _ _ _ _)
   |(with_reducible exact LeO.refl _)|(with_reducible exact LeO.none _)|(with_reducible refine LeO.ite ?_ ?_)|(with_reducible refine LeO.bind ?_ (fun _=>?_))|exact ih0 _ _ _ _ _ _ _ _ _ _ _ _|exact ih1 _ _ _ _ _ _ _ _ _ _|exact ih2 _ _ _ _|exact impl_RegeneratePiece.mono _ _ _ _ _|exact laws_eqHelpS.mono _ _ _|exact laws_eqPiece.mono _ _ _ _ _|exact laws_heldPiece.mono _ _ _ _|exact laws_markHelpS.mono _ _ _|exact laws_markPiece.mono _ _ _ _|exact laws_toHelpS.mono _ _|exact spec_RegeneratePiece.mono _ _ _ _ _|exact LeO.none _|refine LeO.ite ?_ ?_|refine LeO.bind ?_ (fun _=>?_)
theorem laws_FnExactRegeneratePiece.calls (k:Nat) (a0_0:Int) (a0_1:Int) (a1:Int) (A2:Option Addr) (c2:Nat) (l2:List (S153)) (r:Bool) (w:World) (hr2:Kd.C k153 w A2 l2.length l2) (hc2:l2.length≤c2) (h:laws_FnExactRegeneratePiece.f k a0_0 a0_1 a1 l2=some r) :
  Calls Try.prog 8 #[.agg #[.int .i64 a0_0, .int .i64 a0_1], .int .i64 a1, .slice A2 l2.length c2] w fun e w'=>e = .returned (.bool r)∧Below w.heap.size w w':=by
 have hu65:=Try.underlying65
 have hu69:=Try.underlying69
 have HR2:=am hr2
 have HC2:=am hc2
 clear hr2 hc2
 have HB:=am (Below.refl w.heap.size w)
 have H:((laws_szHelpS.f l2 1048576).bind fun t396=>(if t396 < 0 then (some true) else ((laws_toMsr.f a0_0 a0_1).bind fun bt397=>((laws_toHelpS.f k l2).bind fun t399=>((spec_RegeneratePiece.f k bt397.1 bt397.2 a1 t399).bind fun bt402=>((laws_toHelpS.f k l2).bind fun t408=>((laws_toMsr.f a0_0 a0_1).bind fun bt411=>((impl_RegeneratePiece.f k bt411.1 bt411.2 a1 t408).bind fun bt413=>((laws_eqPiece.f k bt413.1 bt413.2.1 bt402.1 bt402.2.1).bind fun t419=>(if t419=true then (laws_FnExactRegeneratePiece.j0 k a1 l2 bt402.2.2 t408 bt413.2.2 (bt413.2.2 != bt402.2.2) a0_0 a0_1 bt402.1 bt402.2.1 bt413.1 bt413.2.1) else (laws_FnExactRegeneratePiece.j0 k a1 l2 bt402.2.2 t408 bt413.2.2 true a0_0 a0_1 bt402.1 bt402.2.1 bt413.1 bt413.2.1)))))))))))=some r:=h
 clear h
 replace H:=Option.bind_eq_some_iff.mp H
 obtain ⟨t396,A40,H⟩:=H
 replace H:(if t396 < 0 then (some true) else ((laws_toMsr.f a0_0 a0_1).bind fun bt397=>((laws_toHelpS.f k l2).bind fun t399=>((spec_RegeneratePiece.f k bt397.1 bt397.2 a1 t399).bind fun bt402=>((laws_toHelpS.f k l2).bind fun t408=>((laws_toMsr.f a0_0 a0_1).bind fun bt411=>((impl_RegeneratePiece.f k bt411.1 bt411.2 a1 t408).bind fun bt413=>((laws_eqPiece.f k bt413.1 bt413.2.1 bt402.1 bt402.2.1).bind fun t419=>(if t419=true then (laws_FnExactRegeneratePiece.j0 k a1 l2 bt402.2.2 t408 bt413.2.2 (bt413.2.2 != bt402.2.2) a0_0 a0_1 bt402.1 bt402.2.1 bt413.1 bt413.2.1) else (laws_FnExactRegeneratePiece.j0 k a1 l2 bt402.2.2 t408 bt413.2.2 true a0_0 a0_1 bt402.1 bt402.2.1 bt413.1 bt413.2.1))))))))))=some r:=H
 have A4:=am A40
 clear A40
 by_cases c5:t396 < 0
 ·rw [if_pos c5] at H
  have c5b0:decide (t396 < 0)=true:=decide_eq_true c5
  clear c5
  obtain rfl:=Option.some.inj H
  go_enter Try.func8,Try.ntmps8
  go_wp2_with (first|((with_reducible refine gate_dst (N:=3) rfl ?_);refine box_event ?hg (N:=3) ?hd (cs:=#[.int .i64 a0_0, .int .i64 a0_1]) (t:=65) ?hr ?_;(case hd=>rfl);(case hg=>rfl);(case hr=>first|(go_simp;done)|(go_simp;rfl));intro gb395 hg w6 hbox hb;have n0_:=am (pu d0 hb);have n1_:=am (hbox);have n2_:=am ((by rw [hg];exact (pz d0):w.heap.size≤gb395));have n3_:=n2_;clear HB;have HB:=n0_;have BK395:=n1_;have GW395:=n2_;have GE395:=n3_;clear n0_ n1_ n2_ n3_;clear hb hbox hg)|((with_reducible refine gate_callee (f:=43) rfl ?_);refine goesL_ (some 20) rfl rfl Try.func43 d3 rfl #[.slice A2 l2.length c2, .int .i64 1048576] rfl d1 ?_;(with_reducible refine (laws_szHelpS.calls _ _ l2 1048576 t396 _ ?side1 ?side2 A4.out).mono ?_);(case side1=>repeat (first|exact (Kd.C_below HR2.out HB.out)|(with_reducible refine Kd.C_alloc ?_ _)|(with_reducible refine Kd.C_drewN ?_ _)|(with_reducible refine Kd.C_drew ?_)));(case side2=>exact HC2.out);rintro e w' ⟨rfl,⟨nd,rfl⟩⟩;refine ⟨_,rfl,?_⟩))
  go_ret
  exact ⟨d5,by repeat (first|(with_reducible first|exact HB.out|apply pa|apply pb|apply pd|refine pt ?_ GE395.out)|exact HB.out)⟩
 rw [if_neg c5] at H
 have c5b0:decide (t396 < 0)=false:=decide_eq_false c5
 clear c5
 replace H:=Option.bind_eq_some_iff.mp H
 obtain ⟨⟨t397,t398⟩,A70,H⟩:=H
 replace H:((laws_toHelpS.f k l2).bind fun t399=>((spec_RegeneratePiece.f k t397 t398 a1 t399).bind fun bt402=>((laws_toHelpS.f k l2).bind fun t408=>((laws_toMsr.f a0_0 a0_1).bind fun bt411=>((impl_RegeneratePiece.f k bt411.1 bt411.2 a1 t408).bind fun bt413=>((laws_eqPiece.f k bt413.1 bt413.2.1 bt402.1 bt402.2.1).bind fun t419=>(if t419=true then (laws_FnExactRegeneratePiece.j0 k a1 l2 bt402.2.2 t408 bt413.2.2 (bt413.2.2 != bt402.2.2) a0_0 a0_1 bt402.1 bt402.2.1 bt413.1 bt413.2.1) else (laws_FnExactRegeneratePiece.j0 k a1 l2 bt402.2.2 t408 bt413.2.2 true a0_0 a0_1 bt402.1 bt402.2.1 bt413.1 bt413.2.1))))))))=some r:=H
 have A7:=am A70
 clear A70
 replace H:=Option.bind_eq_some_iff.mp H
 obtain ⟨t399,A80,H⟩:=H
 replace H:((spec_RegeneratePiece.f k t397 t398 a1 t399).bind fun bt402=>((laws_toHelpS.f k l2).bind fun t408=>((laws_toMsr.f a0_0 a0_1).bind fun bt411=>((impl_RegeneratePiece.f k bt411.1 bt411.2 a1 t408).bind fun bt413=>((laws_eqPiece.f k bt413.1 bt413.2.1 bt402.1 bt402.2.1).bind fun t419=>(if t419=true then (laws_FnExactRegeneratePiece.j0 k a1 l2 bt402.2.2 t408 bt413.2.2 (bt413.2.2 != bt402.2.2) a0_0 a0_1 bt402.1 bt402.2.1 bt413.1 bt413.2.1) else (laws_FnExactRegeneratePiece.j0 k a1 l2 bt402.2.2 t408 bt413.2.2 true a0_0 a0_1 bt402.1 bt402.2.1 bt413.1 bt413.2.1)))))))=some r:=H
 have A8:=am A80
 clear A80
 replace H:=Option.bind_eq_some_iff.mp H
 obtain ⟨⟨t402,t403,t406⟩,A90,H⟩:=H
 replace H:((laws_toHelpS.f k l2).bind fun t408=>((laws_toMsr.f a0_0 a0_1).bind fun bt411=>((impl_RegeneratePiece.f k bt411.1 bt411.2 a1 t408).bind fun bt413=>((laws_eqPiece.f k bt413.1 bt413.2.1 t402 t403).bind fun t419=>(if t419=true then (laws_FnExactRegeneratePiece.j0 k a1 l2 t406 t408 bt413.2.2 (bt413.2.2 != t406) a0_0 a0_1 t402 t403 bt413.1 bt413.2.1) else (laws_FnExactRegeneratePiece.j0 k a1 l2 t406 t408 bt413.2.2 true a0_0 a0_1 t402 t403 bt413.1 bt413.2.1))))))=some r:=H
 have A9:=am A90
 clear A90
 replace H:=Option.bind_eq_some_iff.mp H
 obtain ⟨t408,A100,H⟩:=H
 replace H:((laws_toMsr.f a0_0 a0_1).bind fun bt411=>((impl_RegeneratePiece.f k bt411.1 bt411.2 a1 t408).bind fun bt413=>((laws_eqPiece.f k bt413.1 bt413.2.1 t402 t403).bind fun t419=>(if t419=true then (laws_FnExactRegeneratePiece.j0 k a1 l2 t406 t408 bt413.2.2 (bt413.2.2 != t406) a0_0 a0_1 t402 t403 bt413.1 bt413.2.1) else (laws_FnExactRegeneratePiece.j0 k a1 l2 t406 t408 bt413.2.2 true a0_0 a0_1 t402 t403 bt413.1 bt413.2.1)))))=some r:=H
 have A10:=am A100
 clear A100
 replace H:=Option.bind_eq_some_iff.mp H
 obtain ⟨⟨t411,t412⟩,A110,H⟩:=H
 replace H:((impl_RegeneratePiece.f k t411 t412 a1 t408).bind fun bt413=>((laws_eqPiece.f k bt413.1 bt413.2.1 t402 t403).bind fun t419=>(if t419=true then (laws_FnExactRegeneratePiece.j0 k a1 l2 t406 t408 bt413.2.2 (bt413.2.2 != t406) a0_0 a0_1 t402 t403 bt413.1 bt413.2.1) else (laws_FnExactRegeneratePiece.j0 k a1 l2 t406 t408 bt413.2.2 true a0_0 a0_1 t402 t403 bt413.1 bt413.2.1))))=some r:=H
 have A11:=am A110
 clear A110
 replace H:=Option.bind_eq_some_iff.mp H
 obtain ⟨⟨t413,t414,t417⟩,A120,H⟩:=H
 replace H:((laws_eqPiece.f k t413 t414 t402 t403).bind fun t419=>(if t419=true then (laws_FnExactRegeneratePiece.j0 k a1 l2 t406 t408 t417 (t417 != t406) a0_0 a0_1 t402 t403 t413 t414) else (laws_FnExactRegeneratePiece.j0 k a1 l2 t406 t408 t417 true a0_0 a0_1 t402 t403 t413 t414)))=some r:=H
 have A12:=am A120
 clear A120
 have HC13:=am H
 clear H
 go_enter Try.func8,Try.ntmps8
 go_upto_region 8 with (first|((with_reducible refine gate_dst (N:=3) rfl ?_);refine box_event ?hg (N:=3) ?hd (cs:=#[.int .i64 a0_0, .int .i64 a0_1]) (t:=65) ?hr ?_;(case hd=>rfl);(case hg=>rfl);(case hr=>first|(go_simp;done)|(go_simp;rfl));intro gb395 hg w14 hbox hb;have n0_:=am (pu d0 hb);have n1_:=am (hbox);have n2_:=am ((by rw [hg];exact (pz d0):w.heap.size≤gb395));have n3_:=n2_;clear HB;have HB:=n0_;have BK395:=n1_;have GW395:=n2_;have GE395:=n3_;clear n0_ n1_ n2_ n3_;clear hb hbox hg)|((with_reducible refine gate_callee (f:=43) rfl ?_);refine goesL_ (some 20) rfl rfl Try.func43 d3 rfl #[.slice A2 l2.length c2, .int .i64 1048576] rfl d1 ?_;(with_reducible refine (laws_szHelpS.calls _ _ l2 1048576 t396 _ ?side1 ?side2 A4.out).mono ?_);(case side1=>repeat (first|exact (Kd.C_below HR2.out HB.out)|(with_reducible refine Kd.C_alloc ?_ _)|(with_reducible refine Kd.C_drewN ?_ _)|(with_reducible refine Kd.C_drew ?_)));(case side2=>exact HC2.out);rintro e w' ⟨rfl,⟨nd,rfl⟩⟩;refine ⟨_,rfl,?_⟩;(try (rw [drewN_self w14];generalize hq_:World.drewN w14 _=w14;have n0_:Aside0 (w14.heap[gb395]? = some (.cells #[.int .i64 a0_0, .int .i64 a0_1] 65 (0,0))):=⟨by rw [← hq_];exact (by (with_reducible repeat (first|refine qn ?_ _|refine qd ?_|refine qa ?_ _));exact BK395.out)⟩;have n1_:Aside0 (Below w.heap.size w w14):=⟨by rw [← hq_];exact (by repeat (first|(with_reducible first|exact HB.out|apply pa|apply pb|apply pd|refine pt ?_ GE395.out)|exact HB.out))⟩;clear BK395 HB hq_;have BK395:=n0_;have HB:=n1_;clear n0_ n1_));have hcz15_0:w14.cell? ⟨gb395,0,none⟩=some (.int .i64 a0_0):=(blk_cell BK395.out 0).trans rfl;have hcz15_1:w14.cell? ⟨gb395,1,none⟩=some (.int .i64 a0_1):=(blk_cell BK395.out 1).trans rfl;have hfz15_0:=blk_frozen BK395.out 0;have hfz15_1:=blk_frozen BK395.out 1)|((with_reducible refine gate_callee (f:=45) rfl ?_);refine goesL_ (some 25) rfl rfl Try.func45 d3 rfl #[.agg #[.int .i64 a0_0, .int .i64 a0_1]] rfl d1 ?_;(with_reducible refine (laws_toMsr.calls a0_0 a0_1 t397 t398 _ A7.out).mono ?_);rintro e w16 ⟨rfl,hb⟩;refine ⟨_,rfl,?_⟩;have n0_:=am (qb (g:=gb395) (o:=.cells #[.int .i64 a0_0, .int .i64 a0_1] 65 (0,0)) (by (with_reducible repeat (first|refine qn ?_ _|refine qd ?_|refine qa ?_ _));exact BK395.out) hb);have n1_:=am (pu (by repeat (first|(with_reducible first|exact HB.out|apply pa|apply pb|apply pd|refine pt ?_ GE395.out)|exact HB.out)) hb);clear BK395;clear HB;have BK395:=n0_;have HB:=n1_;clear n0_ n1_;(try clear hb);(try clear hb2);(try clear hk);(try clear hi))|((with_reducible refine gate_callee (f:=46) rfl ?_);refine goesL_ (some 28) rfl rfl Try.func46 d3 rfl #[.slice A2 l2.length c2] rfl d1 ?_;(with_reducible refine (laws_toHelpS.calls k _ _ l2 t399 _ ?side1 ?side2 A8.out).mono ?_);(case side1=>repeat (first|exact (Kd.C_below HR2.out HB.out)|(with_reducible refine Kd.C_alloc ?_ _)|(with_reducible refine Kd.C_drewN ?_ _)|(with_reducible refine Kd.C_drew ?_)));(case side2=>exact HC2.out);rintro e w17 ⟨v400,rfl,ho0,hb⟩;refine ⟨_,rfl,?_⟩;have n0_:=am (Kd.R_lower ho0 (pz (by repeat (first|(with_reducible first|exact HB.out|apply pa|apply pb|apply pd|refine pt ?_ GE395.out)|exact HB.out))));have n1_:=am (qb (g:=gb395) (o:=.cells #[.int .i64 a0_0, .int .i64 a0_1] 65 (0,0)) (by (with_reducible repeat (first|refine qn ?_ _|refine qd ?_|refine qa ?_ _));exact BK395.out) hb);have n2_:=am (pu (by repeat (first|(with_reducible first|exact HB.out|apply pa|apply pb|apply pd|refine pt ?_ GE395.out)|exact HB.out)) hb);clear BK395;clear HB;have HO401:=n0_;have BK395:=n1_;have HB:=n2_;clear n0_ n1_ n2_;(try clear hb);(try clear hb2);(try clear hk);(try clear hi);(try clear ho0);obtain ⟨Ao18,co18,eo18⟩:=Kd.R_slice HO401.out;subst eo18)|((with_reducible refine gate_callee (f:=44) rfl ?_);refine goesL_ (some 29) rfl rfl Try.func44 d3 rfl #[.agg #[.int .i64 t397, .int .i64 t398], .int .i64 a1, .slice Ao18 t399.length co18] rfl d1 ?_;(with_reducible refine (spec_RegeneratePiece.calls k t397 t398 a1 _ _ t399 t402 t403 t406 _ ?side1 ?side2 A9.out).mono ?_);(case side1=>repeat (first|exact (Kd.R_reads' HO401.out).2.2|(with_reducible refine Kd.C_alloc ?_ _)|(with_reducible refine Kd.C_drewN ?_ _)|(with_reducible refine Kd.C_drew ?_)));(case side2=>exact (Kd.R_reads' HO401.out).2.1);rintro e w19 ⟨v404,rfl,ho0,hb⟩;refine ⟨_,rfl,?_⟩;have n0_:=am (Kd.R_below d37 hb);have n1_:=am (Kd.R_lower ho0 (pz (by repeat (first|(with_reducible first|exact HB.out|apply pa|apply pb|apply pd|refine pt ?_ GE395.out)|exact HB.out))));have n2_:=am (qb (g:=gb395) (o:=.cells #[.int .i64 a0_0, .int .i64 a0_1] 65 (0,0)) (by (with_reducible repeat (first|refine qn ?_ _|refine qd ?_|refine qa ?_ _));exact BK395.out) hb);have n3_:=am (pu (by repeat (first|(with_reducible first|exact HB.out|apply pa|apply pb|apply pd|refine pt ?_ GE395.out)|exact HB.out)) hb);clear HO401;clear BK395;clear HB;have HO401:=n0_;have HO405:=n1_;have BK395:=n2_;have HB:=n3_;clear n0_ n1_ n2_ n3_;(try clear hb);(try clear hb2);(try clear hk);(try clear hi);(try clear ho0))|((with_reducible refine gate_dst (N:=8) rfl ?_);refine box_event ?hg (N:=8) ?hd (cs:=#[.int .i64 0, .slice none 0 0]) (t:=69) ?hr ?_;(case hd=>rfl);(case hg=>rfl);(case hr=>first|(go_simp;done)|(go_simp;rfl));intro gb407 hg w20 hbox hb;have n0_:=am (Kd.R_below d37 hb);have n1_:=am (Kd.R_below d36 hb);have n2_:=am (qb (g:=gb395) (o:=.cells #[.int .i64 a0_0, .int .i64 a0_1] 65 (0,0)) (by (with_reducible repeat (first|refine qn ?_ _|refine qd ?_|refine qa ?_ _));exact BK395.out) hb);have n3_:=am (pu (by repeat (first|(with_reducible first|exact HB.out|apply pa|apply pb|apply pd|refine pt ?_ GE395.out)|exact HB.out)) hb);have n4_:=am (hbox);have n5_:=am ((by rw [hg];exact (pz (by repeat (first|(with_reducible first|exact HB.out|apply pa|apply pb|apply pd|refine pt ?_ GE395.out)|exact HB.out))):w.heap.size≤gb407));have n6_:=n5_;have n7_:=am ((by rw [hg];exact Nat.ne_of_lt (blk_lt (g:=gb395) (o:=.cells #[.int .i64 a0_0, .int .i64 a0_1] 65 (0,0)) (by (with_reducible repeat (first|refine qn ?_ _|refine qd ?_|refine qa ?_ _));exact BK395.out)):gb395 ≠ gb407));have n8_:=am ((by rw [hg];exact Nat.ne_of_gt (blk_lt (g:=gb395) (o:=.cells #[.int .i64 a0_0, .int .i64 a0_1] 65 (0,0)) (by (with_reducible repeat (first|refine qn ?_ _|refine qd ?_|refine qa ?_ _));exact BK395.out)):gb407 ≠ gb395));clear HO401;clear HO405;clear BK395;clear HB;have HO401:=n0_;have HO405:=n1_;have BK395:=n2_;have HB:=n3_;have BK407:=n4_;have GW407:=n5_;have GE407:=n6_;have NB395_407:=n7_;have NB407_395:=n8_;clear n0_ n1_ n2_ n3_ n4_ n5_ n6_ n7_ n8_;clear hb hbox hg;have hnb21:=NB407_395.out;have hnc21:=NB395_407.out;have hcz22_0:w20.cell? ⟨gb407,0,none⟩=some (.int .i64 0):=(blk_cell BK407.out 0).trans rfl;have hcz22_1:w20.cell? ⟨gb407,1,none⟩=some (.slice none 0 0):=(blk_cell BK407.out 1).trans rfl;have hfz22_0:=blk_frozen BK407.out 0;have hfz22_1:=blk_frozen BK407.out 1;obtain ⟨Ao23,co23,eo23⟩:=Kd.R_slice HO405.out;subst eo23)|((with_reducible refine gate_callee (f:=46) rfl ?_);refine goesL_ (some 33) rfl rfl Try.func46 d3 rfl #[.slice A2 l2.length c2] rfl d1 ?_;(with_reducible refine (laws_toHelpS.calls k _ _ l2 t408 _ ?side1 ?side2 A10.out).mono ?_);(case side1=>exact Kd.C_below HR2.out (by repeat (first|(with_reducible first|exact HB.out|apply pa|apply pb|apply pd|refine pt ?_ GE395.out|refine pt ?_ GE407.out)|exact HB.out)));(case side2=>exact HC2.out);rintro e w24 ⟨v409,rfl,ho0,hb⟩;refine ⟨_,rfl,?_⟩;have n0_:=am (Kd.R_elder' d45 (Kd.R_base ho0) hb);have n1_:=am (Kd.R_below (by (with_reducible repeat (first|apply Kd.R_alloc|apply Kd.R_drewN|apply Kd.R_drew));exact (Kd.R_mono (Kd.R_far (p:=⟨gb407,1,none⟩) (Kd.R_far (p:=⟨gb407,0,none⟩) (Kd.R_types HO405.out BK407.out d8) (fun _ hk=>hk.2) (.int .i64 t402)) (fun _ hk=>hk.2) (.slice Ao23 t403.length co23)) (fun _ h_=>h_.1))) hb);have n2_:=am (Kd.R_lower (Kd.R_new' ho0 (Kd.R_lt d45)) (pz (by repeat (first|(with_reducible first|exact HB.out|apply pa|apply pb|apply pd|refine pt ?_ GE395.out|refine pt ?_ GE407.out)|exact HB.out))));have n3_:=am (qb (g:=gb395) (o:=.cells #[.int .i64 a0_0, .int .i64 a0_1] 65 (0,0)) (by (with_reducible repeat (first|refine qn ?_ _|refine qd ?_|refine qa ?_ _));refine blk_far ?_ NB395_407.out _;(with_reducible repeat (first|refine qn ?_ _|refine qd ?_|refine qa ?_ _));refine blk_far ?_ NB395_407.out _;(with_reducible repeat (first|refine qn ?_ _|refine qd ?_|refine qa ?_ _));exact BK395.out) hb);have n4_:=am (qb (g:=gb407) (o:=.cells #[.int .i64 t402, .slice Ao23 t403.length co23] 69 (0,0)) (by (with_reducible repeat (first|refine qn ?_ _|refine qd ?_|refine qa ?_ _));refine blk_put (cs:=#[.int .i64 t402, .slice none 0 0]) ?_ 1 _ rfl;(with_reducible repeat (first|refine qn ?_ _|refine qd ?_|refine qa ?_ _));refine blk_put (cs:=#[.int .i64 0, .slice none 0 0]) ?_ 0 _ rfl;(with_reducible repeat (first|refine qn ?_ _|refine qd ?_|refine qa ?_ _));exact BK407.out) hb);have n5_:=am (pu (by repeat (first|(with_reducible first|exact HB.out|apply pa|apply pb|apply pd|refine pt ?_ GE395.out|refine pt ?_ GE407.out)|exact HB.out)) hb);clear HO401;clear HO405;clear BK395;clear BK407;clear HB;have HO401:=n0_;have HO405:=n1_;have HO410:=n2_;have BK395:=n3_;have BK407:=n4_;have HB:=n5_;clear n0_ n1_ n2_ n3_ n4_ n5_;(try clear hb);(try clear hb2);(try clear hk);(try clear hi);(try clear ho0);have hcz25_0:w24.cell? ⟨gb395,0,none⟩=some (.int .i64 a0_0):=(blk_cell BK395.out 0).trans rfl;have hcz25_1:w24.cell? ⟨gb395,1,none⟩=some (.int .i64 a0_1):=(blk_cell BK395.out 1).trans rfl;have hfz25_0:=blk_frozen BK395.out 0;have hfz25_1:=blk_frozen BK395.out 1)|((with_reducible refine gate_callee (f:=45) rfl ?_);refine goesL_ (some 36) rfl rfl Try.func45 d3 rfl #[.agg #[.int .i64 a0_0, .int .i64 a0_1]] rfl d1 ?_;(with_reducible refine (laws_toMsr.calls a0_0 a0_1 t411 t412 _ A11.out).mono ?_);rintro e w26 ⟨rfl,hb⟩;refine ⟨_,rfl,?_⟩;have n0_:=am (Kd.R_below d37 hb);have n1_:=am (Kd.R_below d36 hb);have n2_:=am (Kd.R_below d60 hb);have n3_:=am (qb (g:=gb395) (o:=.cells #[.int .i64 a0_0, .int .i64 a0_1] 65 (0,0)) (by (with_reducible repeat (first|refine qn ?_ _|refine qd ?_|refine qa ?_ _));exact BK395.out) hb);have n4_:=am (qb (g:=gb407) (o:=.cells #[.int .i64 t402, .slice Ao23 t403.length co23] 69 (0,0)) (by (with_reducible repeat (first|refine qn ?_ _|refine qd ?_|refine qa ?_ _));exact BK407.out) hb);have n5_:=am (pu (by repeat (first|(with_reducible first|exact HB.out|apply pa|apply pb|apply pd|refine pt ?_ GE395.out|refine pt ?_ GE407.out)|exact HB.out)) hb);clear HO401;clear HO405;clear HO410;clear BK395;clear BK407;clear HB;have HO401:=n0_;have HO405:=n1_;have HO410:=n2_;have BK395:=n3_;have BK407:=n4_;have HB:=n5_;clear n0_ n1_ n2_ n3_ n4_ n5_;(try clear hb);(try clear hb2);(try clear hk);(try clear hi);obtain ⟨Ao27,co27,eo27⟩:=Kd.R_slice HO410.out;subst eo27)|((with_reducible refine gate_callee (f:=47) rfl ?_);refine goesL_ (some 39) rfl rfl Try.func47 d3 rfl #[.agg #[.int .i64 t411, .int .i64 t412], .int .i64 a1, .slice Ao27 t408.length co27] rfl d1 ?_;(with_reducible refine (impl_RegeneratePiece.calls k t411 t412 a1 _ _ t408 t413 t414 t417 _ ?side1 ?side2 A12.out).mono ?_);(case side1=>repeat (first|exact (Kd.R_reads' HO410.out).2.2|(with_reducible refine Kd.C_alloc ?_ _)|(with_reducible refine Kd.C_drewN ?_ _)|(with_reducible refine Kd.C_drew ?_)));(case side2=>exact (Kd.R_reads' HO410.out).2.1);rintro e w28 ⟨v415,rfl,ho0,hb⟩;refine ⟨_,rfl,?_⟩;have n0_:=am (Kd.R_below d37 hb);have n1_:=am (Kd.R_elder' d36 (Kd.R_base ho0) hb);have n2_:=am (Kd.R_below d60 hb);have n3_:=am (Kd.R_lower (Kd.R_new' ho0 (Kd.R_lt d36)) (pz (by repeat (first|(with_reducible first|exact HB.out|apply pa|apply pb|apply pd|refine pt ?_ GE395.out|refine pt ?_ GE407.out)|exact HB.out))));have n4_:=am (qb (g:=gb395) (o:=.cells #[.int .i64 a0_0, .int .i64 a0_1] 65 (0,0)) (by (with_reducible repeat (first|refine qn ?_ _|refine qd ?_|refine qa ?_ _));exact BK395.out) hb);have n5_:=am (qb (g:=gb407) (o:=.cells #[.int .i64 t402, .slice Ao23 t403.length co23] 69 (0,0)) (by (with_reducible repeat (first|refine qn ?_ _|refine qd ?_|refine qa ?_ _));exact BK407.out) hb);have n6_:=am (pu (by repeat (first|(with_reducible first|exact HB.out|apply pa|apply pb|apply pd|refine pt ?_ GE395.out|refine pt ?_ GE407.out)|exact HB.out)) hb);clear HO401;clear HO405;clear HO410;clear BK395;clear BK407;clear HB;have HO401:=n0_;have HO405:=n1_;have HO410:=n2_;have HO416:=n3_;have BK395:=n4_;have BK407:=n5_;have HB:=n6_;clear n0_ n1_ n2_ n3_ n4_ n5_ n6_;(try clear hb);(try clear hb2);(try clear hk);(try clear hi);(try clear ho0))|((with_reducible refine gate_dst (N:=11) rfl ?_);refine box_event ?hg (N:=11) ?hd (cs:=#[.int .i64 0, .slice none 0 0]) (t:=69) ?hr ?_;(case hd=>rfl);(case hg=>rfl);(case hr=>first|(go_simp;done)|(go_simp;rfl));intro gb418 hg w29 hbox hb;have n0_:=am (Kd.R_below d37 hb);have n1_:=am (Kd.R_below d36 hb);have n2_:=am (Kd.R_below d60 hb);have n3_:=am (Kd.R_below (by (with_reducible repeat (first|apply Kd.R_alloc|apply Kd.R_drewN|apply Kd.R_drew));exact HO416.out) hb);have n4_:=am (qb (g:=gb395) (o:=.cells #[.int .i64 a0_0, .int .i64 a0_1] 65 (0,0)) (by (with_reducible repeat (first|refine qn ?_ _|refine qd ?_|refine qa ?_ _));exact BK395.out) hb);have n5_:=am (qb (g:=gb407) (o:=.cells #[.int .i64 t402, .slice Ao23 t403.length co23] 69 (0,0)) (by (with_reducible repeat (first|refine qn ?_ _|refine qd ?_|refine qa ?_ _));exact BK407.out) hb);have n6_:=am (pu (by repeat (first|(with_reducible first|exact HB.out|apply pa|apply pb|apply pd|refine pt ?_ GE395.out|refine pt ?_ GE407.out)|exact HB.out)) hb);have n7_:=am (hbox);have n8_:=am ((by rw [hg];exact (pz (by repeat (first|(with_reducible first|exact HB.out|apply pa|apply pb|apply pd|refine pt ?_ GE395.out|refine pt ?_ GE407.out)|exact HB.out))):w.heap.size≤gb418));have n9_:=n8_;have n10_:=am ((by rw [hg];exact Nat.ne_of_lt (blk_lt (g:=gb395) (o:=.cells #[.int .i64 a0_0, .int .i64 a0_1] 65 (0,0)) (by (with_reducible repeat (first|refine qn ?_ _|refine qd ?_|refine qa ?_ _));exact BK395.out)):gb395 ≠ gb418));have n11_:=am ((by rw [hg];exact Nat.ne_of_gt (blk_lt (g:=gb395) (o:=.cells #[.int .i64 a0_0, .int .i64 a0_1] 65 (0,0)) (by (with_reducible repeat (first|refine qn ?_ _|refine qd ?_|refine qa ?_ _));exact BK395.out)):gb418 ≠ gb395));have n12_:=am ((by rw [hg];exact Nat.ne_of_lt (blk_lt (g:=gb407) (o:=.cells #[.int .i64 t402, .slice Ao23 t403.length co23] 69 (0,0)) (by (with_reducible repeat (first|refine qn ?_ _|refine qd ?_|refine qa ?_ _));exact BK407.out)):gb407 ≠ gb418));have n13_:=am ((by rw [hg];exact Nat.ne_of_gt (blk_lt (g:=gb407) (o:=.cells #[.int .i64 t402, .slice Ao23 t403.length co23] 69 (0,0)) (by (with_reducible repeat (first|refine qn ?_ _|refine qd ?_|refine qa ?_ _));exact BK407.out)):gb418 ≠ gb407));clear HO401;clear HO405;clear HO410;clear HO416;clear BK395;clear BK407;clear HB;have HO401:=n0_;have HO405:=n1_;have HO410:=n2_;have HO416:=n3_;have BK395:=n4_;have BK407:=n5_;have HB:=n6_;have BK418:=n7_;have GW418:=n8_;have GE418:=n9_;have NB395_418:=n10_;have NB418_395:=n11_;have NB407_418:=n12_;have NB418_407:=n13_;clear n0_ n1_ n2_ n3_ n4_ n5_ n6_ n7_ n8_ n9_ n10_ n11_ n12_ n13_;clear hb hbox hg;have hnb30:=NB418_395.out;have hnc30:=NB395_418.out;have hnb31:=NB418_407.out;have hnc31:=NB407_418.out;have hcz32_0:w29.cell? ⟨gb418,0,none⟩=some (.int .i64 0):=(blk_cell BK418.out 0).trans rfl;have hcz32_1:w29.cell? ⟨gb418,1,none⟩=some (.slice none 0 0):=(blk_cell BK418.out 1).trans rfl;have hfz32_0:=blk_frozen BK418.out 0;have hfz32_1:=blk_frozen BK418.out 1;obtain ⟨Ao33,co33,eo33⟩:=Kd.R_slice HO416.out;subst eo33))
 (try simp only [Act.put,q1,q2,q3])
 go_cut [50] (fun v50 wc=>∃ (kq:Nat) (x50_12:Bool),v50 = .bool x50_12∧Aside0 (laws_FnExactRegeneratePiece.j0 kq a1 l2 t406 t408 t417 x50_12 a0_0 a0_1 t402 t403 t413 t414=some r)∧Aside0 (kq≤k)∧Aside0 (Kd.R k147 147 wc w.heap.size (fun _=>True) (.slice Ao27 t408.length co27) t408)∧Aside0 (Kd.R (Kd.int .u8) 5 wc w.heap.size (fun k_=>some k_ ≠ ((.slice Ao33 t414.length co33):Value).ownBlock) (.slice Ao23 t403.length co23) t403)∧Aside0 (Kd.R (Kd.int .u8) 5 wc w.heap.size (fun k_=>some k_ ≠ ((.slice Ao23 t403.length co23):Value).ownBlock) (.slice Ao33 t414.length co33) t414)∧Aside0 (wc.heap[gb395]? = some (.cells #[.int .i64 a0_0, .int .i64 a0_1] 65 (0,0)))∧Aside0 (wc.heap[gb407]? = some (.cells #[.int .i64 t402,(.slice Ao23 t403.length co23)] 69 (0,0)))∧Aside0 (wc.heap[gb418]? = some (.cells #[.int .i64 t413,(.slice Ao33 t414.length co33)] 69 (0,0)))∧Aside0 (Below w.heap.size w wc))
 case first =>
  have H:=HC13.out
  clear HC13
  replace H:=Option.bind_eq_some_iff.mp H
  obtain ⟨t419,A340,H⟩:=H
  replace H:(if t419=true then (laws_FnExactRegeneratePiece.j0 k a1 l2 t406 t408 t417 (t417 != t406) a0_0 a0_1 t402 t403 t413 t414) else (laws_FnExactRegeneratePiece.j0 k a1 l2 t406 t408 t417 true a0_0 a0_1 t402 t403 t413 t414))=some r:=H
  have A34:=am A340
  clear A340
  by_cases c35:t419=true
  ·subst c35
   have H1:(laws_FnExactRegeneratePiece.j0 k a1 l2 t406 t408 t417 (t417 != t406) a0_0 a0_1 t402 t403 t413 t414)=some r:=by rw [if_pos rfl] at H;exact H
   clear H
   have H:=H1
   clear H1
   have H':=am H
   clear H
   have hnb36:=NB418_395.out
   have hnc36:=NB395_418.out
   have hnb37:=NB418_407.out
   have hnc37:=NB407_418.out
   have hcz38_0:w29.cell? ⟨gb418,0,none⟩=some (.int .i64 0):=(blk_cell BK418.out 0).trans rfl
   have hcz38_1:w29.cell? ⟨gb418,1,none⟩=some (.slice none 0 0):=(blk_cell BK418.out 1).trans rfl
   have hfz38_0:=blk_frozen BK418.out 0
   have hfz38_1:=blk_frozen BK418.out 1
   have hnb39:=NB407_395.out
   have hnc39:=NB395_407.out
   have hcz40_0:w29.cell? ⟨gb407,0,none⟩=some (.int .i64 t402):=(blk_cell BK407.out 0).trans rfl
   have hcz40_1:w29.cell? ⟨gb407,1,none⟩=some (.slice Ao23 t403.length co23):=(blk_cell BK407.out 1).trans rfl
   have hfz40_0:=blk_frozen BK407.out 0
   have hfz40_1:=blk_frozen BK407.out 1
   go_wp2_with (first|((with_reducible refine gate_callee (f:=48) rfl ?_);refine goesL_ (some 44) rfl rfl Try.func48 d3 rfl #[.agg #[.int .i64 t413, .slice Ao33 t414.length co33], .agg #[.int .i64 t402, .slice Ao23 t403.length co23]] rfl d1 ?_;(with_reducible refine (laws_eqPiece.calls k t413 _ _ t414 t402 _ _ t403 true _ ?side1 ?side2 ?side3 ?side4 A34.out).mono ?_);(case side1=>refine (Kd.R_reads' (e:=5) (base:=w.heap.size) (ok:=fun k_=>(True∧some k_ ≠ (.slice Ao23 t403.length co23:Value).ownBlock)) (n:=t414.length) (c:=co33) ?_).2.2;exact d25);(case side2=>exact (Kd.R_reads' HO416.out).2.1);(case side3=>refine (Kd.R_reads' (e:=5) (base:=w.heap.size) (ok:=fun k_=>(True∧some k_ ≠ (.slice Ao33 t414.length co33:Value).ownBlock)) (n:=t403.length) (c:=co23) ?_).2.2;exact d26);(case side4=>exact (Kd.R_reads' HO405.out).2.1);rintro e w41 ⟨rfl,hb⟩;refine ⟨_,rfl,?_⟩;have n0_:=am (Kd.R_below d44 hb);have n1_:=am (Kd.R_below d26 hb);have n2_:=am (Kd.R_below d43 hb);have n3_:=am (Kd.R_below d25 hb);have n4_:=am (qb (g:=gb395) (o:=.cells #[.int .i64 a0_0, .int .i64 a0_1] 65 (0,0)) (by (with_reducible repeat (first|refine qn ?_ _|refine qd ?_|refine qa ?_ _));refine blk_far ?_ NB395_418.out _;(with_reducible repeat (first|refine qn ?_ _|refine qd ?_|refine qa ?_ _));refine blk_far ?_ NB395_418.out _;(with_reducible repeat (first|refine qn ?_ _|refine qd ?_|refine qa ?_ _));exact BK395.out) hb);have n5_:=am (qb (g:=gb407) (o:=.cells #[.int .i64 t402, .slice Ao23 t403.length co23] 69 (0,0)) (by (with_reducible repeat (first|refine qn ?_ _|refine qd ?_|refine qa ?_ _));refine blk_far ?_ NB407_418.out _;(with_reducible repeat (first|refine qn ?_ _|refine qd ?_|refine qa ?_ _));refine blk_far ?_ NB407_418.out _;(with_reducible repeat (first|refine qn ?_ _|refine qd ?_|refine qa ?_ _));exact BK407.out) hb);have n6_:=am (qb (g:=gb418) (o:=.cells #[.int .i64 t413, .slice Ao33 t414.length co33] 69 (0,0)) (by (with_reducible repeat (first|refine qn ?_ _|refine qd ?_|refine qa ?_ _));refine blk_put (cs:=#[.int .i64 t413, .slice none 0 0]) ?_ 1 _ rfl;(with_reducible repeat (first|refine qn ?_ _|refine qd ?_|refine qa ?_ _));refine blk_put (cs:=#[.int .i64 0, .slice none 0 0]) ?_ 0 _ rfl;(with_reducible repeat (first|refine qn ?_ _|refine qd ?_|refine qa ?_ _));exact BK418.out) hb);have n7_:=am (pu (by repeat (first|(with_reducible first|exact HB.out|apply pa|apply pb|apply pd|refine pt ?_ GE395.out|refine pt ?_ GE407.out|refine pt ?_ GE418.out)|exact HB.out)) hb);clear HO401;clear HO405;clear HO410;clear HO416;clear BK395;clear BK407;clear BK418;clear HB;have HO401:=n0_;have HO405:=n1_;have HO410:=n2_;have HO416:=n3_;have BK395:=n4_;have BK407:=n5_;have BK418:=n6_;have HB:=n7_;clear n0_ n1_ n2_ n3_ n4_ n5_ n6_ n7_;(try clear hb);(try clear hb2);(try clear hk);(try clear hi)))
   go_meet
   case rel=>exact ⟨_,((t417 != t406)),d4,H',⟨d63⟩,⟨d70⟩,⟨d72⟩,⟨d71⟩,⟨by (with_reducible repeat (first|refine qn ?_ _|refine qd ?_|refine qa ?_ _));exact BK395.out⟩,⟨by (with_reducible repeat (first|refine qn ?_ _|refine qd ?_|refine qa ?_ _));exact BK407.out⟩,⟨by (with_reducible repeat (first|refine qn ?_ _|refine qd ?_|refine qa ?_ _));exact BK418.out⟩,⟨by repeat (first|(with_reducible first|exact HB.out|apply pa|apply pb|apply pd|refine pt ?_ GE395.out|refine pt ?_ GE407.out|refine pt ?_ GE418.out)|exact HB.out)⟩⟩
  replace c35:=Bool.eq_false_iff.mpr c35
  subst c35
  have H1:(laws_FnExactRegeneratePiece.j0 k a1 l2 t406 t408 t417 true a0_0 a0_1 t402 t403 t413 t414)=some r:=by rw [if_neg (show ¬ (false=true) by decide)] at H;exact H
  clear H
  have H:=H1
  clear H1
  have H':=am H
  clear H
  have hnb42:=NB418_395.out
  have hnc42:=NB395_418.out
  have hnb43:=NB418_407.out
  have hnc43:=NB407_418.out
  have hcz44_0:w29.cell? ⟨gb418,0,none⟩=some (.int .i64 0):=(blk_cell BK418.out 0).trans rfl
  have hcz44_1:w29.cell? ⟨gb418,1,none⟩=some (.slice none 0 0):=(blk_cell BK418.out 1).trans rfl
  have hfz44_0:=blk_frozen BK418.out 0
  have hfz44_1:=blk_frozen BK418.out 1
  have hnb45:=NB407_395.out
  have hnc45:=NB395_407.out
  have hcz46_0:w29.cell? ⟨gb407,0,none⟩=some (.int .i64 t402):=(blk_cell BK407.out 0).trans rfl
  have hcz46_1:w29.cell? ⟨gb407,1,none⟩=some (.slice Ao23 t403.length co23):=(blk_cell BK407.out 1).trans rfl
  have hfz46_0:=blk_frozen BK407.out 0
  have hfz46_1:=blk_frozen BK407.out 1
  go_wp2_with (first|((with_reducible refine gate_callee (f:=48) rfl ?_);refine goesL_ (some 44) rfl rfl Try.func48 d3 rfl #[.agg #[.int .i64 t413, .slice Ao33 t414.length co33], .agg #[.int .i64 t402, .slice Ao23 t403.length co23]] rfl d1 ?_;(with_reducible refine (laws_eqPiece.calls k t413 _ _ t414 t402 _ _ t403 false _ ?side1 ?side2 ?side3 ?side4 A34.out).mono ?_);(case side1=>refine (Kd.R_reads' (e:=5) (base:=w.heap.size) (ok:=fun k_=>(True∧some k_ ≠ (.slice Ao23 t403.length co23:Value).ownBlock)) (n:=t414.length) (c:=co33) ?_).2.2;exact d25);(case side2=>exact (Kd.R_reads' HO416.out).2.1);(case side3=>refine (Kd.R_reads' (e:=5) (base:=w.heap.size) (ok:=fun k_=>(True∧some k_ ≠ (.slice Ao33 t414.length co33:Value).ownBlock)) (n:=t403.length) (c:=co23) ?_).2.2;exact d26);(case side4=>exact (Kd.R_reads' HO405.out).2.1);rintro e w47 ⟨rfl,hb⟩;refine ⟨_,rfl,?_⟩;have n0_:=am (Kd.R_below d44 hb);have n1_:=am (Kd.R_below d26 hb);have n2_:=am (Kd.R_below d43 hb);have n3_:=am (Kd.R_below d25 hb);have n4_:=am (qb (g:=gb395) (o:=.cells #[.int .i64 a0_0, .int .i64 a0_1] 65 (0,0)) (by (with_reducible repeat (first|refine qn ?_ _|refine qd ?_|refine qa ?_ _));refine blk_far ?_ NB395_418.out _;(with_reducible repeat (first|refine qn ?_ _|refine qd ?_|refine qa ?_ _));refine blk_far ?_ NB395_418.out _;(with_reducible repeat (first|refine qn ?_ _|refine qd ?_|refine qa ?_ _));exact BK395.out) hb);have n5_:=am (qb (g:=gb407) (o:=.cells #[.int .i64 t402, .slice Ao23 t403.length co23] 69 (0,0)) (by (with_reducible repeat (first|refine qn ?_ _|refine qd ?_|refine qa ?_ _));refine blk_far ?_ NB407_418.out _;(with_reducible repeat (first|refine qn ?_ _|refine qd ?_|refine qa ?_ _));refine blk_far ?_ NB407_418.out _;(with_reducible repeat (first|refine qn ?_ _|refine qd ?_|refine qa ?_ _));exact BK407.out) hb);have n6_:=am (qb (g:=gb418) (o:=.cells #[.int .i64 t413, .slice Ao33 t414.length co33] 69 (0,0)) (by (with_reducible repeat (first|refine qn ?_ _|refine qd ?_|refine qa ?_ _));refine blk_put (cs:=#[.int .i64 t413, .slice none 0 0]) ?_ 1 _ rfl;(with_reducible repeat (first|refine qn ?_ _|refine qd ?_|refine qa ?_ _));refine blk_put (cs:=#[.int .i64 0, .slice none 0 0]) ?_ 0 _ rfl;(with_reducible repeat (first|refine qn ?_ _|refine qd ?_|refine qa ?_ _));exact BK418.out) hb);have n7_:=am (pu (by repeat (first|(with_reducible first|exact HB.out|apply pa|apply pb|apply pd|refine pt ?_ GE395.out|refine pt ?_ GE407.out|refine pt ?_ GE418.out)|exact HB.out)) hb);clear HO401;clear HO405;clear HO410;clear HO416;clear BK395;clear BK407;clear BK418;clear HB;have HO401:=n0_;have HO405:=n1_;have HO410:=n2_;have HO416:=n3_;have BK395:=n4_;have BK407:=n5_;have BK418:=n6_;have HB:=n7_;clear n0_ n1_ n2_ n3_ n4_ n5_ n6_ n7_;(try clear hb);(try clear hb2);(try clear hk);(try clear hi)))
  go_meet
  case rel=>exact ⟨_,(true),d4,H',⟨d63⟩,⟨d70⟩,⟨d72⟩,⟨d71⟩,⟨by (with_reducible repeat (first|refine qn ?_ _|refine qd ?_|refine qa ?_ _));exact BK395.out⟩,⟨by (with_reducible repeat (first|refine qn ?_ _|refine qd ?_|refine qa ?_ _));exact BK407.out⟩,⟨by (with_reducible repeat (first|refine qn ?_ _|refine qd ?_|refine qa ?_ _));exact BK418.out⟩,⟨by repeat (first|(with_reducible first|exact HB.out|apply pa|apply pb|apply pd|refine pt ?_ GE395.out|refine pt ?_ GE407.out|refine pt ?_ GE418.out)|exact HB.out)⟩⟩
 case rest =>
  clear HC13
  try clear c2
  try clear p2
  try clear c3
  try clear c4
  try clear c5
  try clear c5b0
  try clear c8
  try clear c21
  try clear c30
  try clear c31
  try clear c35
  try clear c36
  try clear c37
  try clear c39
  try clear c42
  try clear c43
  try clear c44
  try clear c45
  try clear c46
  try clear c47
  try clear hcz15_0
  try clear hcz15_1
  try clear hcz22_0
  try clear hcz22_1
  try clear hcz25_0
  try clear hcz25_1
  try clear hcz32_0
  try clear hcz32_1
  try clear hcz38_0
  try clear hcz38_1
  try clear hcz40_0
  try clear hcz40_1
  try clear hcz44_0
  try clear hcz44_1
  try clear hcz46_0
  try clear hcz46_1
  try clear hfz15_0
  try clear hfz15_1
  try clear hfz22_0
  try clear hfz22_1
  try clear hfz25_0
  try clear hfz25_1
  try clear hfz32_0
  try clear hfz32_1
  try clear hfz38_0
  try clear hfz38_1
  try clear hfz40_0
  try clear hfz40_1
  try clear hfz44_0
  try clear hfz44_1
  try clear hfz46_0
  try clear hfz46_1
  obtain ⟨kq,x50_12,rfl,HA,HJ12,HO_10,HO_408001,HO_419001,BK395,BK407,BK418,HB⟩:=hcut
  cases kq with
  | zero=>exact absurd HA.out (by simp [laws_FnExactRegeneratePiece.j0])
  | succ kj12 =>
   have H:=HA.out
   clear HA
   simp only [laws_FnExactRegeneratePiece.j0] at H
   by_cases c48:x50_12=true
   ·subst c48
    have H1:(some false)=some r:=by rw [if_pos rfl] at H;exact H
    clear H
    have H:=H1
    clear H1
    obtain rfl:=Option.some.inj H
    go_wp2
    go_ret
    exact ⟨d5,by repeat (first|(with_reducible first|exact HB.out|apply pa|apply pb|apply pd|refine pt ?_ GE395.out|refine pt ?_ GE407.out|refine pt ?_ GE418.out)|exact HB.out)⟩
   replace c48:=Bool.eq_false_iff.mpr c48
   subst c48
   have H1:((laws_toHelpS.f kj12 l2).bind fun t420=>((laws_eqHelpS.f kj12 t408 t420).bind fun t423=>(if t423=true then ((laws_markHelpS.f kj12 t408 1).bind fun bt424=>(if bt424.1 < 0 then (laws_FnExactRegeneratePiece.j1 kj12 a1 l2 t406 true a0_0 a0_1 t402 t403 t413 t414) else ((laws_eqPiece.f kj12 t413 t414 t402 t403).bind fun t426=>(if t426=true then (laws_FnExactRegeneratePiece.j1 kj12 a1 l2 t406 (t417 != t406) a0_0 a0_1 t402 t403 t413 t414) else (laws_FnExactRegeneratePiece.j1 kj12 a1 l2 t406 true a0_0 a0_1 t402 t403 t413 t414))))) else (some false))))=some r:=by rw [if_neg (show ¬ (false=true) by decide)] at H;exact H
   clear H
   have H:=H1
   clear H1
   replace H:=Option.bind_eq_some_iff.mp H
   obtain ⟨t420,A490,H⟩:=H
   replace H:((laws_eqHelpS.f kj12 t408 t420).bind fun t423=>(if t423=true then ((laws_markHelpS.f kj12 t408 1).bind fun bt424=>(if bt424.1 < 0 then (laws_FnExactRegeneratePiece.j1 kj12 a1 l2 t406 true a0_0 a0_1 t402 t403 t413 t414) else ((laws_eqPiece.f kj12 t413 t414 t402 t403).bind fun t426=>(if t426=true then (laws_FnExactRegeneratePiece.j1 kj12 a1 l2 t406 (t417 != t406) a0_0 a0_1 t402 t403 t413 t414) else (laws_FnExactRegeneratePiece.j1 kj12 a1 l2 t406 true a0_0 a0_1 t402 t403 t413 t414))))) else (some false)))=some r:=H
   have A49:=am A490
   clear A490
   replace H:=Option.bind_eq_some_iff.mp H
   obtain ⟨t423,A500,H⟩:=H
   replace H:(if t423=true then ((laws_markHelpS.f kj12 t408 1).bind fun bt424=>(if bt424.1 < 0 then (laws_FnExactRegeneratePiece.j1 kj12 a1 l2 t406 true a0_0 a0_1 t402 t403 t413 t414) else ((laws_eqPiece.f kj12 t413 t414 t402 t403).bind fun t426=>(if t426=true then (laws_FnExactRegeneratePiece.j1 kj12 a1 l2 t406 (t417 != t406) a0_0 a0_1 t402 t403 t413 t414) else (laws_FnExactRegeneratePiece.j1 kj12 a1 l2 t406 true a0_0 a0_1 t402 t403 t413 t414))))) else (some false))=some r:=H
   have A50:=am A500
   clear A500
   by_cases c51:t423=true
   ·subst c51
    have H1:((laws_markHelpS.f kj12 t408 1).bind fun bt424=>(if bt424.1 < 0 then (laws_FnExactRegeneratePiece.j1 kj12 a1 l2 t406 true a0_0 a0_1 t402 t403 t413 t414) else ((laws_eqPiece.f kj12 t413 t414 t402 t403).bind fun t426=>(if t426=true then (laws_FnExactRegeneratePiece.j1 kj12 a1 l2 t406 (t417 != t406) a0_0 a0_1 t402 t403 t413 t414) else (laws_FnExactRegeneratePiece.j1 kj12 a1 l2 t406 true a0_0 a0_1 t402 t403 t413 t414)))))=some r:=by rw [if_pos rfl] at H;exact H
    clear H
    have H:=H1
    clear H1
    replace H:=Option.bind_eq_some_iff.mp H
    obtain ⟨⟨t424,t425⟩,A520,H⟩:=H
    replace H:(if t424 < 0 then (laws_FnExactRegeneratePiece.j1 kj12 a1 l2 t406 true a0_0 a0_1 t402 t403 t413 t414) else ((laws_eqPiece.f kj12 t413 t414 t402 t403).bind fun t426=>(if t426=true then (laws_FnExactRegeneratePiece.j1 kj12 a1 l2 t406 (t417 != t406) a0_0 a0_1 t402 t403 t413 t414) else (laws_FnExactRegeneratePiece.j1 kj12 a1 l2 t406 true a0_0 a0_1 t402 t403 t413 t414))))=some r:=H
    have A52:=am A520
    clear A520
    have HC53:=am H
    clear H
    go_upto_region 14 with (first|((with_reducible refine gate_callee (f:=46) rfl ?_);refine goesL_ (some 53) rfl rfl Try.func46 d3 rfl #[.slice A2 l2.length c2] rfl d1 ?_;(with_reducible refine (laws_toHelpS.calls kj12 _ _ l2 t420 _ ?side1 ?side2 A49.out).mono ?_);(case side1=>repeat (first|exact (Kd.C_below HR2.out HB.out)|(with_reducible refine Kd.C_alloc ?_ _)|(with_reducible refine Kd.C_drewN ?_ _)|(with_reducible refine Kd.C_drew ?_)));(case side2=>exact HC2.out);rintro e w54 ⟨v421,rfl,ho0,hb⟩;refine ⟨_,rfl,?_⟩;have n0_:=am (Kd.R_elder' d6 (Kd.R_base ho0) hb);have n1_:=am (Kd.R_below d11 hb);have n2_:=am (Kd.R_below d10 hb);have n3_:=am (Kd.R_lower (Kd.R_new' ho0 (Kd.R_lt d6)) (pz (by repeat (first|(with_reducible first|exact HB.out|apply pa|apply pb|apply pd|refine pt ?_ GE395.out|refine pt ?_ GE407.out|refine pt ?_ GE418.out)|exact HB.out))));have n4_:=am (qb (g:=gb395) (o:=.cells #[.int .i64 a0_0, .int .i64 a0_1] 65 (0,0)) (by (with_reducible repeat (first|refine qn ?_ _|refine qd ?_|refine qa ?_ _));exact BK395.out) hb);have n5_:=am (qb (g:=gb407) (o:=.cells #[.int .i64 t402, .slice Ao23 t403.length co23] 69 (0,0)) (by (with_reducible repeat (first|refine qn ?_ _|refine qd ?_|refine qa ?_ _));exact BK407.out) hb);have n6_:=am (qb (g:=gb418) (o:=.cells #[.int .i64 t413, .slice Ao33 t414.length co33] 69 (0,0)) (by (with_reducible repeat (first|refine qn ?_ _|refine qd ?_|refine qa ?_ _));exact BK418.out) hb);have n7_:=am (pu (by repeat (first|(with_reducible first|exact HB.out|apply pa|apply pb|apply pd|refine pt ?_ GE395.out|refine pt ?_ GE407.out|refine pt ?_ GE418.out)|exact HB.out)) hb);clear HO_10;clear HO_408001;clear HO_419001;clear BK395;clear BK407;clear BK418;clear HB;have HO_10:=n0_;have HO_408001:=n1_;have HO_419001:=n2_;have HO422:=n3_;have BK395:=n4_;have BK407:=n5_;have BK418:=n6_;have HB:=n7_;clear n0_ n1_ n2_ n3_ n4_ n5_ n6_ n7_;(try clear hb);(try clear hb2);(try clear hk);(try clear hi);(try clear ho0);obtain ⟨Ao55,co55,eo55⟩:=Kd.R_slice HO422.out;subst eo55)|((with_reducible refine gate_callee (f:=49) rfl ?_);refine goesL_ (some 54) rfl rfl Try.func49 d3 rfl #[.slice Ao27 t408.length co27, .slice Ao55 t420.length co55] rfl d1 ?_;(with_reducible refine (laws_eqHelpS.calls kj12 _ _ t408 _ _ t420 true _ ?side1 ?side2 ?side3 ?side4 A50.out).mono ?_);(case side1=>repeat (first|exact (Kd.R_reads' HO_10.out).2.2|(with_reducible refine Kd.C_alloc ?_ _)|(with_reducible refine Kd.C_drewN ?_ _)|(with_reducible refine Kd.C_drew ?_)));(case side2=>exact (Kd.R_reads' HO_10.out).2.1);(case side3=>repeat (first|exact (Kd.R_reads' HO422.out).2.2|(with_reducible refine Kd.C_alloc ?_ _)|(with_reducible refine Kd.C_drewN ?_ _)|(with_reducible refine Kd.C_drew ?_)));(case side4=>exact (Kd.R_reads' HO422.out).2.1);rintro e w56 ⟨rfl,hb⟩;refine ⟨_,rfl,?_⟩;have n0_:=am (Kd.R_below d6 hb);have n1_:=am (Kd.R_below d11 hb);have n2_:=am (Kd.R_below d10 hb);have n3_:=am (Kd.R_below d47 hb);have n4_:=am (qb (g:=gb395) (o:=.cells #[.int .i64 a0_0, .int .i64 a0_1] 65 (0,0)) (by (with_reducible repeat (first|refine qn ?_ _|refine qd ?_|refine qa ?_ _));exact BK395.out) hb);have n5_:=am (qb (g:=gb407) (o:=.cells #[.int .i64 t402, .slice Ao23 t403.length co23] 69 (0,0)) (by (with_reducible repeat (first|refine qn ?_ _|refine qd ?_|refine qa ?_ _));exact BK407.out) hb);have n6_:=am (qb (g:=gb418) (o:=.cells #[.int .i64 t413, .slice Ao33 t414.length co33] 69 (0,0)) (by (with_reducible repeat (first|refine qn ?_ _|refine qd ?_|refine qa ?_ _));exact BK418.out) hb);have n7_:=am (pu (by repeat (first|(with_reducible first|exact HB.out|apply pa|apply pb|apply pd|refine pt ?_ GE395.out|refine pt ?_ GE407.out|refine pt ?_ GE418.out)|exact HB.out)) hb);clear HO_10;clear HO_408001;clear HO_419001;clear HO422;clear BK395;clear BK407;clear BK418;clear HB;have HO_10:=n0_;have HO_408001:=n1_;have HO_419001:=n2_;have HO422:=n3_;have BK395:=n4_;have BK407:=n5_;have BK418:=n6_;have HB:=n7_;clear n0_ n1_ n2_ n3_ n4_ n5_ n6_ n7_;(try clear hb);(try clear hb2);(try clear hk);(try clear hi))|((with_reducible refine gate_callee (f:=50) rfl ?_);refine goesL_ (some 58) rfl rfl Try.func50 d3 rfl #[.slice Ao27 t408.length co27, .int .i64 1] rfl d1 ?_;(with_reducible refine (laws_markHelpS.calls kj12 (fun k_=>some k_=(.slice Ao27 t408.length co27:Value).ownBlock) (.slice Ao27 t408.length co27) t408 1 t424 t425 w _ ?side1 ?side2 A52.out).mono ?_);(case side1=>repeat (first|(with_reducible first|exact HB.out|apply pa|apply pb|apply pd|refine pt ?_ GE395.out|refine pt ?_ GE407.out|refine pt ?_ GE418.out)|exact HB.out));(case side2=>exact Kd.R_tight rfl HO_10.out);rintro e w57 ⟨rfl,hy0,hb,hkp⟩;refine ⟨_,rfl,?_⟩;have n0_:=am (Kd.R_reok rfl hy0 (fun k_ e_=>HO_10.out.1 k_ e_));have n1_:=am (Kd.R_mono (ok':=fun k_=>some k_ ≠ (.slice Ao33 t414.length co33:Value).ownBlock) (Kd.R_keptB ((Kd.R_apart' HO_408001.out (Kd.R_typed HO_10.out) d8)) hkp (fun k_ hk_ hs_=>(hk_.2) hs_)) (fun k_ hk_=>hk_.1.1));have n2_:=am (Kd.R_mono (ok':=fun k_=>some k_ ≠ (.slice Ao23 t403.length co23:Value).ownBlock) (Kd.R_keptB ((Kd.R_apart' HO_419001.out (Kd.R_typed HO_10.out) d8)) hkp (fun k_ hk_ hs_=>(hk_.2) hs_)) (fun k_ hk_=>hk_.1.1));have n3_:=am (blk_kept (by (with_reducible repeat (first|refine qn ?_ _|refine qd ?_|refine qa ?_ _));exact BK395.out) hkp (fun hs_=>(fun e_=>(Kd.R_ne HO_10.out BK395.out d8) e_) hs_));have n4_:=am (blk_kept (by (with_reducible repeat (first|refine qn ?_ _|refine qd ?_|refine qa ?_ _));exact BK407.out) hkp (fun hs_=>(fun e_=>(Kd.R_ne HO_10.out BK407.out d8) e_) hs_));have n5_:=am (blk_kept (by (with_reducible repeat (first|refine qn ?_ _|refine qd ?_|refine qa ?_ _));exact BK418.out) hkp (fun hs_=>(fun e_=>(Kd.R_ne HO_10.out BK418.out d8) e_) hs_));have n6_:=am (Kd.R_mono (ok':=fun k_=>some k_ ≠ (.slice Ao27 t408.length co27:Value).ownBlock) (Kd.R_keptB (HO422.out) hkp (fun k_ hk_ hs_=>(hk_.2) hs_)) (fun k_ hk_=>hk_.1.2));have n7_:=am (hb);clear HO_10;clear HO_408001;clear HO_419001;clear BK395;clear BK407;clear BK418;clear HO422;clear HB;have HO_10:=n0_;have HO_408001:=n1_;have HO_419001:=n2_;have BK395:=n3_;have BK407:=n4_;have BK418:=n5_;have HO422:=n6_;have HB:=n7_;clear n0_ n1_ n2_ n3_ n4_ n5_ n6_ n7_;(try clear hb);(try clear hkp);(try clear hy0)))
    (try simp only [Act.put,q1,q2,q3])
    go_cut [71] (fun v71 wc=>∃ (kq:Nat) (x71_52:Bool),v71 = .bool x71_52∧Aside0 (laws_FnExactRegeneratePiece.j1 kq a1 l2 t406 x71_52 a0_0 a0_1 t402 t403 t413 t414=some r)∧Aside0 (kq≤kj12)∧Aside0 (Kd.R (Kd.int .u8) 5 wc w.heap.size (fun k_=>some k_ ≠ ((.slice Ao33 t414.length co33):Value).ownBlock) (.slice Ao23 t403.length co23) t403)∧Aside0 (Kd.R (Kd.int .u8) 5 wc w.heap.size (fun k_=>some k_ ≠ ((.slice Ao23 t403.length co23):Value).ownBlock) (.slice Ao33 t414.length co33) t414)∧Aside0 (wc.heap[gb395]? = some (.cells #[.int .i64 a0_0, .int .i64 a0_1] 65 (0,0)))∧Aside0 (wc.heap[gb407]? = some (.cells #[.int .i64 t402,(.slice Ao23 t403.length co23)] 69 (0,0)))∧Aside0 (wc.heap[gb418]? = some (.cells #[.int .i64 t413,(.slice Ao33 t414.length co33)] 69 (0,0)))∧Aside0 (Below w.heap.size w wc))
    case first =>
     have H:=HC53.out
     clear HC53
     by_cases c58:t424 < 0
     ·rw [if_pos c58] at H
      have c58b0:decide (t424 < 0)=true:=decide_eq_true c58
      clear c58
      (first|rw [c58b0]|(simp only [i64_w,i32_w];rw [c58b0])|skip)
      have H':=am H
      clear H
      go_wp2
      go_meet
      case rel=>exact ⟨_,(true),d4,H',⟨by have:=HJ12.out;first|omega|exact Nat.le_refl _⟩,⟨d11⟩,⟨d10⟩,⟨by (with_reducible repeat (first|refine qn ?_ _|refine qd ?_|refine qa ?_ _));exact BK395.out⟩,⟨by (with_reducible repeat (first|refine qn ?_ _|refine qd ?_|refine qa ?_ _));exact BK407.out⟩,⟨by (with_reducible repeat (first|refine qn ?_ _|refine qd ?_|refine qa ?_ _));exact BK418.out⟩,⟨by repeat (first|(with_reducible first|exact HB.out|apply pa|apply pb|apply pd|refine pt ?_ GE395.out|refine pt ?_ GE407.out|refine pt ?_ GE418.out)|exact HB.out)⟩⟩
     rw [if_neg c58] at H
     have c58b0:decide (t424 < 0)=false:=decide_eq_false c58
     clear c58
     (first|rw [c58b0]|(simp only [i64_w,i32_w];rw [c58b0])|skip)
     replace H:=Option.bind_eq_some_iff.mp H
     obtain ⟨t426,A590,H⟩:=H
     replace H:(if t426=true then (laws_FnExactRegeneratePiece.j1 kj12 a1 l2 t406 (t417 != t406) a0_0 a0_1 t402 t403 t413 t414) else (laws_FnExactRegeneratePiece.j1 kj12 a1 l2 t406 true a0_0 a0_1 t402 t403 t413 t414))=some r:=H
     have A59:=am A590
     clear A590
     by_cases c60:t426=true
     ·subst c60
      have H1:(laws_FnExactRegeneratePiece.j1 kj12 a1 l2 t406 (t417 != t406) a0_0 a0_1 t402 t403 t413 t414)=some r:=by rw [if_pos rfl] at H;exact H
      clear H
      have H:=H1
      clear H1
      have H':=am H
      clear H
      have hnb61:=NB418_395.out
      have hnc61:=NB395_418.out
      have hnb62:=NB418_407.out
      have hnc62:=NB407_418.out
      have hcz63_0:w57.cell? ⟨gb418,0,none⟩=some (.int .i64 t413):=(blk_cell BK418.out 0).trans rfl
      have hcz63_1:w57.cell? ⟨gb418,1,none⟩=some (.slice Ao33 t414.length co33):=(blk_cell BK418.out 1).trans rfl
      have hfz63_0:=blk_frozen BK418.out 0
      have hfz63_1:=blk_frozen BK418.out 1
      have hnb64:=NB407_395.out
      have hnc64:=NB395_407.out
      have hcz65_0:w57.cell? ⟨gb407,0,none⟩=some (.int .i64 t402):=(blk_cell BK407.out 0).trans rfl
      have hcz65_1:w57.cell? ⟨gb407,1,none⟩=some (.slice Ao23 t403.length co23):=(blk_cell BK407.out 1).trans rfl
      have hfz65_0:=blk_frozen BK407.out 0
      have hfz65_1:=blk_frozen BK407.out 1
      go_wp2_with (first|(go_at_call 48;(with_reducible refine (laws_eqPiece.calls kj12 t413 _ _ t414 t402 _ _ t403 true _ ?side1 ?side2 ?side3 ?side4 A59.out).mono ?_);(case side1=>repeat (first|exact (Kd.R_reads' HO_419001.out).2.2|(with_reducible refine Kd.C_alloc ?_ _)|(with_reducible refine Kd.C_drewN ?_ _)|(with_reducible refine Kd.C_drew ?_)));(case side2=>exact (Kd.R_reads' HO_419001.out).2.1);(case side3=>repeat (first|exact (Kd.R_reads' HO_408001.out).2.2|(with_reducible refine Kd.C_alloc ?_ _)|(with_reducible refine Kd.C_drewN ?_ _)|(with_reducible refine Kd.C_drew ?_)));(case side4=>exact (Kd.R_reads' HO_408001.out).2.1);rintro e w66 ⟨rfl,hb⟩;have n0_:=am (Kd.R_below d6 hb);have n1_:=am (Kd.R_below d11 hb);have n2_:=am (Kd.R_below d10 hb);have n3_:=am (Kd.R_below d47 hb);have n4_:=am (qb (g:=gb395) (o:=.cells #[.int .i64 a0_0, .int .i64 a0_1] 65 (0,0)) (by (with_reducible repeat (first|refine qn ?_ _|refine qd ?_|refine qa ?_ _));exact BK395.out) hb);have n5_:=am (qb (g:=gb407) (o:=.cells #[.int .i64 t402, .slice Ao23 t403.length co23] 69 (0,0)) (by (with_reducible repeat (first|refine qn ?_ _|refine qd ?_|refine qa ?_ _));exact BK407.out) hb);have n6_:=am (qb (g:=gb418) (o:=.cells #[.int .i64 t413, .slice Ao33 t414.length co33] 69 (0,0)) (by (with_reducible repeat (first|refine qn ?_ _|refine qd ?_|refine qa ?_ _));exact BK418.out) hb);have n7_:=am (pu (by repeat (first|(with_reducible first|exact HB.out|apply pa|apply pb|apply pd|refine pt ?_ GE395.out|refine pt ?_ GE407.out|refine pt ?_ GE418.out)|exact HB.out)) hb);clear HO_10;clear HO_408001;clear HO_419001;clear HO422;clear BK395;clear BK407;clear BK418;clear HB;have HO_10:=n0_;have HO_408001:=n1_;have HO_419001:=n2_;have HO422:=n3_;have BK395:=n4_;have BK407:=n5_;have BK418:=n6_;have HB:=n7_;clear n0_ n1_ n2_ n3_ n4_ n5_ n6_ n7_;(try clear hb);(try clear hb2);(try clear hk);(try clear hi)))
      go_meet
      case rel=>exact ⟨_,((t417 != t406)),d4,H',⟨by have:=HJ12.out;first|omega|exact Nat.le_refl _⟩,⟨d11⟩,⟨d10⟩,⟨by (with_reducible repeat (first|refine qn ?_ _|refine qd ?_|refine qa ?_ _));exact BK395.out⟩,⟨by (with_reducible repeat (first|refine qn ?_ _|refine qd ?_|refine qa ?_ _));exact BK407.out⟩,⟨by (with_reducible repeat (first|refine qn ?_ _|refine qd ?_|refine qa ?_ _));exact BK418.out⟩,⟨by repeat (first|(with_reducible first|exact HB.out|apply pa|apply pb|apply pd|refine pt ?_ GE395.out|refine pt ?_ GE407.out|refine pt ?_ GE418.out)|exact HB.out)⟩⟩
     replace c60:=Bool.eq_false_iff.mpr c60
     subst c60
     have H1:(laws_FnExactRegeneratePiece.j1 kj12 a1 l2 t406 true a0_0 a0_1 t402 t403 t413 t414)=some r:=by rw [if_neg (show ¬ (false=true) by decide)] at H;exact H
     clear H
     have H:=H1
     clear H1
     have H':=am H
     clear H
     have hnb67:=NB418_395.out
     have hnc67:=NB395_418.out
     have hnb68:=NB418_407.out
     have hnc68:=NB407_418.out
     have hcz69_0:w57.cell? ⟨gb418,0,none⟩=some (.int .i64 t413):=(blk_cell BK418.out 0).trans rfl
     have hcz69_1:w57.cell? ⟨gb418,1,none⟩=some (.slice Ao33 t414.length co33):=(blk_cell BK418.out 1).trans rfl
     have hfz69_0:=blk_frozen BK418.out 0
     have hfz69_1:=blk_frozen BK418.out 1
     have hnb70:=NB407_395.out
     have hnc70:=NB395_407.out
     have hcz71_0:w57.cell? ⟨gb407,0,none⟩=some (.int .i64 t402):=(blk_cell BK407.out 0).trans rfl
     have hcz71_1:w57.cell? ⟨gb407,1,none⟩=some (.slice Ao23 t403.length co23):=(blk_cell BK407.out 1).trans rfl
     have hfz71_0:=blk_frozen BK407.out 0
     have hfz71_1:=blk_frozen BK407.out 1
     go_wp2_with (first|(go_at_call 48;(with_reducible refine (laws_eqPiece.calls kj12 t413 _ _ t414 t402 _ _ t403 false _ ?side1 ?side2 ?side3 ?side4 A59.out).mono ?_);(case side1=>repeat (first|exact (Kd.R_reads' HO_419001.out).2.2|(with_reducible refine Kd.C_alloc ?_ _)|(with_reducible refine Kd.C_drewN ?_ _)|(with_reducible refine Kd.C_drew ?_)));(case side2=>exact (Kd.R_reads' HO_419001.out).2.1);(case side3=>repeat (first|exact (Kd.R_reads' HO_408001.out).2.2|(with_reducible refine Kd.C_alloc ?_ _)|(with_reducible refine Kd.C_drewN ?_ _)|(with_reducible refine Kd.C_drew ?_)));(case side4=>exact (Kd.R_reads' HO_408001.out).2.1);rintro e w72 ⟨rfl,hb⟩;have n0_:=am (Kd.R_below d6 hb);have n1_:=am (Kd.R_below d11 hb);have n2_:=am (Kd.R_below d10 hb);have n3_:=am (Kd.R_below d47 hb);have n4_:=am (qb (g:=gb395) (o:=.cells #[.int .i64 a0_0, .int .i64 a0_1] 65 (0,0)) (by (with_reducible repeat (first|refine qn ?_ _|refine qd ?_|refine qa ?_ _));exact BK395.out) hb);have n5_:=am (qb (g:=gb407) (o:=.cells #[.int .i64 t402, .slice Ao23 t403.length co23] 69 (0,0)) (by (with_reducible repeat (first|refine qn ?_ _|refine qd ?_|refine qa ?_ _));exact BK407.out) hb);have n6_:=am (qb (g:=gb418) (o:=.cells #[.int .i64 t413, .slice Ao33 t414.length co33] 69 (0,0)) (by (with_reducible repeat (first|refine qn ?_ _|refine qd ?_|refine qa ?_ _));exact BK418.out) hb);have n7_:=am (pu (by repeat (first|(with_reducible first|exact HB.out|apply pa|apply pb|apply pd|refine pt ?_ GE395.out|refine pt ?_ GE407.out|refine pt ?_ GE418.out)|exact HB.out)) hb);clear HO_10;clear HO_408001;clear HO_419001;clear HO422;clear BK395;clear BK407;clear BK418;clear HB;have HO_10:=n0_;have HO_408001:=n1_;have HO_419001:=n2_;have HO422:=n3_;have BK395:=n4_;have BK407:=n5_;have BK418:=n6_;have HB:=n7_;clear n0_ n1_ n2_ n3_ n4_ n5_ n6_ n7_;(try clear hb);(try clear hb2);(try clear hk);(try clear hi)))
     go_meet
     case rel=>exact ⟨_,(true),d4,H',⟨by have:=HJ12.out;first|omega|exact Nat.le_refl _⟩,⟨d11⟩,⟨d10⟩,⟨by (with_reducible repeat (first|refine qn ?_ _|refine qd ?_|refine qa ?_ _));exact BK395.out⟩,⟨by (with_reducible repeat (first|refine qn ?_ _|refine qd ?_|refine qa ?_ _));exact BK407.out⟩,⟨by (with_reducible repeat (first|refine qn ?_ _|refine qd ?_|refine qa ?_ _));exact BK418.out⟩,⟨by repeat (first|(with_reducible first|exact HB.out|apply pa|apply pb|apply pd|refine pt ?_ GE395.out|refine pt ?_ GE407.out|refine pt ?_ GE418.out)|exact HB.out)⟩⟩
    case rest =>
     clear HC53
     try clear c2
     try clear p2
     try clear c3
     try clear c4
     try clear c5
     try clear c5b0
     try clear c6
     try clear c7
     try clear c8
     try clear c21
     try clear c30
     try clear c31
     try clear c35
     try clear c36
     try clear c37
     try clear c39
     try clear c42
     try clear c43
     try clear c44
     try clear c45
     try clear c46
     try clear c47
     try clear c48
     try clear c49
     try clear c50
     try clear c51
     try clear c58
     try clear c58b0
     try clear c60
     try clear c61
     try clear c62
     try clear c64
     try clear c67
     try clear c68
     try clear c70
     try clear hcz15_0
     try clear hcz15_1
     try clear hcz22_0
     try clear hcz22_1
     try clear hcz25_0
     try clear hcz25_1
     try clear hcz32_0
     try clear hcz32_1
     try clear hcz38_0
     try clear hcz38_1
     try clear hcz40_0
     try clear hcz40_1
     try clear hcz44_0
     try clear hcz44_1
     try clear hcz46_0
     try clear hcz46_1
     try clear hcz63_0
     try clear hcz63_1
     try clear hcz65_0
     try clear hcz65_1
     try clear hcz69_0
     try clear hcz69_1
     try clear hcz71_0
     try clear hcz71_1
     try clear hfz15_0
     try clear hfz15_1
     try clear hfz22_0
     try clear hfz22_1
     try clear hfz25_0
     try clear hfz25_1
     try clear hfz32_0
     try clear hfz32_1
     try clear hfz38_0
     try clear hfz38_1
     try clear hfz40_0
     try clear hfz40_1
     try clear hfz44_0
     try clear hfz44_1
     try clear hfz46_0
     try clear hfz46_1
     try clear hfz63_0
     try clear hfz63_1
     try clear hfz65_0
     try clear hfz65_1
     try clear hfz69_0
     try clear hfz69_1
     try clear hfz71_0
     try clear hfz71_1
     try clear p2
     obtain ⟨kq,x71_52,rfl,HA,HJ52,HO_408001,HO_419001,BK395,BK407,BK418,HB⟩:=hcut
     cases kq with
     | zero=>exact absurd HA.out (by simp [laws_FnExactRegeneratePiece.j1])
     | succ kj52 =>
      have H:=HA.out
      clear HA
      simp only [laws_FnExactRegeneratePiece.j1] at H
      by_cases c73:x71_52=true
      ·subst c73
       have H1:(some false)=some r:=by rw [if_pos rfl] at H;exact H
       clear H
       have H:=H1
       clear H1
       obtain rfl:=Option.some.inj H
       go_wp2
       go_ret
       exact ⟨d5,by repeat (first|(with_reducible first|exact HB.out|apply pa|apply pb|apply pd|refine pt ?_ GE395.out|refine pt ?_ GE407.out|refine pt ?_ GE418.out)|exact HB.out)⟩
      replace c73:=Bool.eq_false_iff.mpr c73
      subst c73
      have H1:((laws_markPiece.f kj52 t413 t414 1).bind fun bt427=>((laws_heldPiece.f kj52 t413 bt427.2 1).bind fun t429=>(if t429 < 0 then (some false) else (if t429=bt427.1 then ((laws_toMsr.f a0_0 a0_1).bind fun bt430=>((laws_toHelpS.f kj52 l2).bind fun t432=>((impl_RegeneratePiece.f kj52 bt430.1 bt430.2 a1 t432).bind fun bt435=>((laws_eqPiece.f kj52 bt435.1 bt435.2.1 t402 t403).bind fun t441=>(if t441=true then (laws_FnExactRegeneratePiece.j2 kj52 bt427.1 (bt435.2.2 != t406) t413 bt427.2) else (laws_FnExactRegeneratePiece.j2 kj52 bt427.1 true t413 bt427.2)))))) else (some false)))))=some r:=by rw [if_neg (show ¬ (false=true) by decide)] at H;exact H
      clear H
      have H:=H1
      clear H1
      replace H:=Option.bind_eq_some_iff.mp H
      obtain ⟨⟨t427,t428⟩,A740,H⟩:=H
      replace H:((laws_heldPiece.f kj52 t413 t428 1).bind fun t429=>(if t429 < 0 then (some false) else (if t429=t427 then ((laws_toMsr.f a0_0 a0_1).bind fun bt430=>((laws_toHelpS.f kj52 l2).bind fun t432=>((impl_RegeneratePiece.f kj52 bt430.1 bt430.2 a1 t432).bind fun bt435=>((laws_eqPiece.f kj52 bt435.1 bt435.2.1 t402 t403).bind fun t441=>(if t441=true then (laws_FnExactRegeneratePiece.j2 kj52 t427 (bt435.2.2 != t406) t413 t428) else (laws_FnExactRegeneratePiece.j2 kj52 t427 true t413 t428)))))) else (some false))))=some r:=H
      have A74:=am A740
      clear A740
      replace H:=Option.bind_eq_some_iff.mp H
      obtain ⟨t429,A750,H⟩:=H
      replace H:(if t429 < 0 then (some false) else (if t429=t427 then ((laws_toMsr.f a0_0 a0_1).bind fun bt430=>((laws_toHelpS.f kj52 l2).bind fun t432=>((impl_RegeneratePiece.f kj52 bt430.1 bt430.2 a1 t432).bind fun bt435=>((laws_eqPiece.f kj52 bt435.1 bt435.2.1 t402 t403).bind fun t441=>(if t441=true then (laws_FnExactRegeneratePiece.j2 kj52 t427 (bt435.2.2 != t406) t413 t428) else (laws_FnExactRegeneratePiece.j2 kj52 t427 true t413 t428)))))) else (some false)))=some r:=H
      have A75:=am A750
      clear A750
      by_cases c76:t429 < 0
      ·rw [if_pos c76] at H
       have c76b0:decide (t429 < 0)=true:=decide_eq_true c76
       clear c76
       obtain rfl:=Option.some.inj H
       have hnb77:=NB418_395.out
       have hnc77:=NB395_418.out
       have hnb78:=NB418_407.out
       have hnc78:=NB407_418.out
       have hcz79_0:wc.cell? ⟨gb418,0,none⟩=some (.int .i64 t413):=(blk_cell BK418.out 0).trans rfl
       have hcz79_1:wc.cell? ⟨gb418,1,none⟩=some (.slice Ao33 t414.length co33):=(blk_cell BK418.out 1).trans rfl
       have hfz79_0:=blk_frozen BK418.out 0
       have hfz79_1:=blk_frozen BK418.out 1
       go_wp2_with (first|((with_reducible refine gate_callee (f:=51) rfl ?_);refine goesL_ (some 74) rfl rfl Try.func51 d3 rfl #[.agg #[.int .i64 t413, .slice Ao33 t414.length co33], .int .i64 1] rfl d1 ?_;(with_reducible refine (laws_markPiece.calls kj52 t413 (fun k_=>some k_=(.slice Ao33 t414.length co33:Value).ownBlock) (.slice Ao33 t414.length co33) t414 1 t427 t428 w _ ?side1 ?side2 A74.out).mono ?_);(case side1=>repeat (first|(with_reducible first|exact HB.out|apply pa|apply pb|apply pd|refine pt ?_ GE395.out|refine pt ?_ GE407.out|refine pt ?_ GE418.out)|exact HB.out));(case side2=>exact Kd.R_tight rfl HO_419001.out);rintro e w80 ⟨rfl,hy0,hb,hkp⟩;refine ⟨_,rfl,?_⟩;have n0_:=am (Kd.R_mono (ok':=fun k_=>some k_ ≠ (.slice Ao33 t414.length co33:Value).ownBlock) (Kd.R_keptB (HO_408001.out) hkp (fun k_ hk_ hs_=>(hk_) hs_)) (fun k_ hk_=>hk_.1));have n1_:=am (Kd.R_reok rfl hy0 (fun k_ e_=>HO_419001.out.1 k_ e_));have n2_:=am (blk_kept (by (with_reducible repeat (first|refine qn ?_ _|refine qd ?_|refine qa ?_ _));exact BK395.out) hkp (fun hs_=>(fun e_=>(Kd.R_ne HO_419001.out BK395.out d8) e_) hs_));have n3_:=am (blk_kept (by (with_reducible repeat (first|refine qn ?_ _|refine qd ?_|refine qa ?_ _));exact BK407.out) hkp (fun hs_=>(fun e_=>(Kd.R_ne HO_419001.out BK407.out d8) e_) hs_));have n4_:=am (blk_kept (by (with_reducible repeat (first|refine qn ?_ _|refine qd ?_|refine qa ?_ _));exact BK418.out) hkp (fun hs_=>(fun e_=>(Kd.R_ne HO_419001.out BK418.out d8) e_) hs_));have n5_:=am (hb);clear HO_408001;clear HO_419001;clear BK395;clear BK407;clear BK418;clear HB;have HO_408001:=n0_;have HO_419001:=n1_;have BK395:=n2_;have BK407:=n3_;have BK418:=n4_;have HB:=n5_;clear n0_ n1_ n2_ n3_ n4_ n5_;(try clear hb);(try clear hkp);(try clear hy0);have hcz81_0:w80.cell? ⟨gb418,0,none⟩=some (.int .i64 t413):=(blk_cell BK418.out 0).trans rfl;have hcz81_1:w80.cell? ⟨gb418,1,none⟩=some (.slice Ao33 t414.length co33):=(blk_cell BK418.out 1).trans rfl;have hfz81_0:=blk_frozen BK418.out 0;have hfz81_1:=blk_frozen BK418.out 1)|((with_reducible refine gate_callee (f:=52) rfl ?_);refine goesL_ (some 77) rfl rfl Try.func52 d3 rfl #[.agg #[.int .i64 t413, .slice Ao33 t428.length co33], .int .i64 1] rfl d46 ?_;(with_reducible refine (laws_heldPiece.calls kj52 t413 _ _ t428 1 t429 _ ?side1 ?side2 A75.out).mono ?_);(case side1=>repeat (first|exact (Kd.R_reads' HO_419001.out).2.2|(with_reducible refine Kd.C_alloc ?_ _)|(with_reducible refine Kd.C_drewN ?_ _)|(with_reducible refine Kd.C_drew ?_)));(case side2=>rw [show t428.length=t414.length from (Kd.R_reads' HO_419001.out).1.symm];exact (Kd.R_reads' HO_419001.out).2.1);rintro e w82 ⟨rfl,hb⟩;refine ⟨_,rfl,?_⟩;have n0_:=am (Kd.R_below d11 hb);have n1_:=am (Kd.R_below d10 hb);have n2_:=am (qb (g:=gb395) (o:=.cells #[.int .i64 a0_0, .int .i64 a0_1] 65 (0,0)) (by (with_reducible repeat (first|refine qn ?_ _|refine qd ?_|refine qa ?_ _));exact BK395.out) hb);have n3_:=am (qb (g:=gb407) (o:=.cells #[.int .i64 t402, .slice Ao23 t403.length co23] 69 (0,0)) (by (with_reducible repeat (first|refine qn ?_ _|refine qd ?_|refine qa ?_ _));exact BK407.out) hb);have n4_:=am (qb (g:=gb418) (o:=.cells #[.int .i64 t413, .slice Ao33 t414.length co33] 69 (0,0)) (by (with_reducible repeat (first|refine qn ?_ _|refine qd ?_|refine qa ?_ _));exact BK418.out) hb);have n5_:=am (pu (by repeat (first|(with_reducible first|exact HB.out|apply pa|apply pb|apply pd|refine pt ?_ GE395.out|refine pt ?_ GE407.out|refine pt ?_ GE418.out)|exact HB.out)) hb);clear HO_408001;clear HO_419001;clear BK395;clear BK407;clear BK418;clear HB;have HO_408001:=n0_;have HO_419001:=n1_;have BK395:=n2_;have BK407:=n3_;have BK418:=n4_;have HB:=n5_;clear n0_ n1_ n2_ n3_ n4_ n5_;(try clear hb);(try clear hb2);(try clear hk);(try clear hi)))
       go_ret
       exact ⟨d5,by repeat (first|(with_reducible first|exact HB.out|apply pa|apply pb|apply pd|refine pt ?_ GE395.out|refine pt ?_ GE407.out|refine pt ?_ GE418.out)|exact HB.out)⟩
      rw [if_neg c76] at H
      have c76b0:decide (t429 < 0)=false:=decide_eq_false c76
      clear c76
      by_cases c83:t429=t427
      ·rw [if_pos c83] at H
       have c83b0:(t429 == t427)=true:=beq_iff_eq.mpr c83
       have c83b1:(t429 != t427)=false:=bne_eq_false_iff_eq.mpr c83
       clear c83
       replace H:=Option.bind_eq_some_iff.mp H
       obtain ⟨⟨t430,t431⟩,A840,H⟩:=H
       replace H:((laws_toHelpS.f kj52 l2).bind fun t432=>((impl_RegeneratePiece.f kj52 t430 t431 a1 t432).bind fun bt435=>((laws_eqPiece.f kj52 bt435.1 bt435.2.1 t402 t403).bind fun t441=>(if t441=true then (laws_FnExactRegeneratePiece.j2 kj52 t427 (bt435.2.2 != t406) t413 t428) else (laws_FnExactRegeneratePiece.j2 kj52 t427 true t413 t428)))))=some r:=H
       have A84:=am A840
       clear A840
       replace H:=Option.bind_eq_some_iff.mp H
       obtain ⟨t432,A850,H⟩:=H
       replace H:((impl_RegeneratePiece.f kj52 t430 t431 a1 t432).bind fun bt435=>((laws_eqPiece.f kj52 bt435.1 bt435.2.1 t402 t403).bind fun t441=>(if t441=true then (laws_FnExactRegeneratePiece.j2 kj52 t427 (bt435.2.2 != t406) t413 t428) else (laws_FnExactRegeneratePiece.j2 kj52 t427 true t413 t428))))=some r:=H
       have A85:=am A850
       clear A850
       replace H:=Option.bind_eq_some_iff.mp H
       obtain ⟨⟨t435,t436,t439⟩,A860,H⟩:=H
       replace H:((laws_eqPiece.f kj52 t435 t436 t402 t403).bind fun t441=>(if t441=true then (laws_FnExactRegeneratePiece.j2 kj52 t427 (t439 != t406) t413 t428) else (laws_FnExactRegeneratePiece.j2 kj52 t427 true t413 t428)))=some r:=H
       have A86:=am A860
       clear A860
       have HC87:=am H
       clear H
       have hnb88:=NB418_395.out
       have hnc88:=NB395_418.out
       have hnb89:=NB418_407.out
       have hnc89:=NB407_418.out
       have hcz90_0:wc.cell? ⟨gb418,0,none⟩=some (.int .i64 t413):=(blk_cell BK418.out 0).trans rfl
       have hcz90_1:wc.cell? ⟨gb418,1,none⟩=some (.slice Ao33 t414.length co33):=(blk_cell BK418.out 1).trans rfl
       have hfz90_0:=blk_frozen BK418.out 0
       have hfz90_1:=blk_frozen BK418.out 1
       go_upto_region 25 with (first|((with_reducible refine gate_callee (f:=51) rfl ?_);refine goesL_ (some 74) rfl rfl Try.func51 d3 rfl #[.agg #[.int .i64 t413, .slice Ao33 t414.length co33], .int .i64 1] rfl d1 ?_;(with_reducible refine (laws_markPiece.calls kj52 t413 (fun k_=>some k_=(.slice Ao33 t414.length co33:Value).ownBlock) (.slice Ao33 t414.length co33) t414 1 t427 t428 w _ ?side1 ?side2 A74.out).mono ?_);(case side1=>repeat (first|(with_reducible first|exact HB.out|apply pa|apply pb|apply pd|refine pt ?_ GE395.out|refine pt ?_ GE407.out|refine pt ?_ GE418.out)|exact HB.out));(case side2=>exact Kd.R_tight rfl HO_419001.out);rintro e w91 ⟨rfl,hy0,hb,hkp⟩;refine ⟨_,rfl,?_⟩;have n0_:=am (Kd.R_mono (ok':=fun k_=>some k_ ≠ (.slice Ao33 t414.length co33:Value).ownBlock) (Kd.R_keptB (HO_408001.out) hkp (fun k_ hk_ hs_=>(hk_) hs_)) (fun k_ hk_=>hk_.1));have n1_:=am (Kd.R_reok rfl hy0 (fun k_ e_=>HO_419001.out.1 k_ e_));have n2_:=am (blk_kept (by (with_reducible repeat (first|refine qn ?_ _|refine qd ?_|refine qa ?_ _));exact BK395.out) hkp (fun hs_=>(fun e_=>(Kd.R_ne HO_419001.out BK395.out d8) e_) hs_));have n3_:=am (blk_kept (by (with_reducible repeat (first|refine qn ?_ _|refine qd ?_|refine qa ?_ _));exact BK407.out) hkp (fun hs_=>(fun e_=>(Kd.R_ne HO_419001.out BK407.out d8) e_) hs_));have n4_:=am (blk_kept (by (with_reducible repeat (first|refine qn ?_ _|refine qd ?_|refine qa ?_ _));exact BK418.out) hkp (fun hs_=>(fun e_=>(Kd.R_ne HO_419001.out BK418.out d8) e_) hs_));have n5_:=am (hb);clear HO_408001;clear HO_419001;clear BK395;clear BK407;clear BK418;clear HB;have HO_408001:=n0_;have HO_419001:=n1_;have BK395:=n2_;have BK407:=n3_;have BK418:=n4_;have HB:=n5_;clear n0_ n1_ n2_ n3_ n4_ n5_;(try clear hb);(try clear hkp);(try clear hy0);have hcz92_0:w91.cell? ⟨gb418,0,none⟩=some (.int .i64 t413):=(blk_cell BK418.out 0).trans rfl;have hcz92_1:w91.cell? ⟨gb418,1,none⟩=some (.slice Ao33 t414.length co33):=(blk_cell BK418.out 1).trans rfl;have hfz92_0:=blk_frozen BK418.out 0;have hfz92_1:=blk_frozen BK418.out 1)|((with_reducible refine gate_callee (f:=52) rfl ?_);refine goesL_ (some 77) rfl rfl Try.func52 d3 rfl #[.agg #[.int .i64 t413, .slice Ao33 t428.length co33], .int .i64 1] rfl d46 ?_;(with_reducible refine (laws_heldPiece.calls kj52 t413 _ _ t428 1 t429 _ ?side1 ?side2 A75.out).mono ?_);(case side1=>repeat (first|exact (Kd.R_reads' HO_419001.out).2.2|(with_reducible refine Kd.C_alloc ?_ _)|(with_reducible refine Kd.C_drewN ?_ _)|(with_reducible refine Kd.C_drew ?_)));(case side2=>rw [show t428.length=t414.length from (Kd.R_reads' HO_419001.out).1.symm];exact (Kd.R_reads' HO_419001.out).2.1);rintro e w93 ⟨rfl,hb⟩;refine ⟨_,rfl,?_⟩;have n0_:=am (Kd.R_below d11 hb);have n1_:=am (Kd.R_below d10 hb);have n2_:=am (qb (g:=gb395) (o:=.cells #[.int .i64 a0_0, .int .i64 a0_1] 65 (0,0)) (by (with_reducible repeat (first|refine qn ?_ _|refine qd ?_|refine qa ?_ _));exact BK395.out) hb);have n3_:=am (qb (g:=gb407) (o:=.cells #[.int .i64 t402, .slice Ao23 t403.length co23] 69 (0,0)) (by (with_reducible repeat (first|refine qn ?_ _|refine qd ?_|refine qa ?_ _));exact BK407.out) hb);have n4_:=am (qb (g:=gb418) (o:=.cells #[.int .i64 t413, .slice Ao33 t414.length co33] 69 (0,0)) (by (with_reducible repeat (first|refine qn ?_ _|refine qd ?_|refine qa ?_ _));exact BK418.out) hb);have n5_:=am (pu (by repeat (first|(with_reducible first|exact HB.out|apply pa|apply pb|apply pd|refine pt ?_ GE395.out|refine pt ?_ GE407.out|refine pt ?_ GE418.out)|exact HB.out)) hb);clear HO_408001;clear HO_419001;clear BK395;clear BK407;clear BK418;clear HB;have HO_408001:=n0_;have HO_419001:=n1_;have BK395:=n2_;have BK407:=n3_;have BK418:=n4_;have HB:=n5_;clear n0_ n1_ n2_ n3_ n4_ n5_;(try clear hb);(try clear hb2);(try clear hk);(try clear hi);have hnb94:=NB395_407.out;have hnc94:=NB407_395.out;have hcz95_0:w93.cell? ⟨gb395,0,none⟩=some (.int .i64 a0_0):=(blk_cell BK395.out 0).trans rfl;have hcz95_1:w93.cell? ⟨gb395,1,none⟩=some (.int .i64 a0_1):=(blk_cell BK395.out 1).trans rfl;have hfz95_0:=blk_frozen BK395.out 0;have hfz95_1:=blk_frozen BK395.out 1)|((with_reducible refine gate_callee (f:=45) rfl ?_);refine goesL_ (some 85) rfl rfl Try.func45 d3 rfl #[.agg #[.int .i64 a0_0, .int .i64 a0_1]] rfl d1 ?_;(with_reducible refine (laws_toMsr.calls a0_0 a0_1 t430 t431 _ A84.out).mono ?_);rintro e w96 ⟨rfl,hb⟩;refine ⟨_,rfl,?_⟩;have n0_:=am (Kd.R_below d11 hb);have n1_:=am (Kd.R_below d10 hb);have n2_:=am (qb (g:=gb395) (o:=.cells #[.int .i64 a0_0, .int .i64 a0_1] 65 (0,0)) (by (with_reducible repeat (first|refine qn ?_ _|refine qd ?_|refine qa ?_ _));exact BK395.out) hb);have n3_:=am (qb (g:=gb407) (o:=.cells #[.int .i64 t402, .slice Ao23 t403.length co23] 69 (0,0)) (by (with_reducible repeat (first|refine qn ?_ _|refine qd ?_|refine qa ?_ _));exact BK407.out) hb);have n4_:=am (qb (g:=gb418) (o:=.cells #[.int .i64 t413, .slice Ao33 t414.length co33] 69 (0,0)) (by (with_reducible repeat (first|refine qn ?_ _|refine qd ?_|refine qa ?_ _));exact BK418.out) hb);have n5_:=am (pu (by repeat (first|(with_reducible first|exact HB.out|apply pa|apply pb|apply pd|refine pt ?_ GE395.out|refine pt ?_ GE407.out|refine pt ?_ GE418.out)|exact HB.out)) hb);clear HO_408001;clear HO_419001;clear BK395;clear BK407;clear BK418;clear HB;have HO_408001:=n0_;have HO_419001:=n1_;have BK395:=n2_;have BK407:=n3_;have BK418:=n4_;have HB:=n5_;clear n0_ n1_ n2_ n3_ n4_ n5_;(try clear hb);(try clear hb2);(try clear hk);(try clear hi))|((with_reducible refine gate_callee (f:=46) rfl ?_);refine goesL_ (some 88) rfl rfl Try.func46 d3 rfl #[.slice A2 l2.length c2] rfl d1 ?_;(with_reducible refine (laws_toHelpS.calls kj52 _ _ l2 t432 _ ?side1 ?side2 A85.out).mono ?_);(case side1=>repeat (first|exact (Kd.C_below HR2.out HB.out)|(with_reducible refine Kd.C_alloc ?_ _)|(with_reducible refine Kd.C_drewN ?_ _)|(with_reducible refine Kd.C_drew ?_)));(case side2=>exact HC2.out);rintro e w97 ⟨v433,rfl,ho0,hb⟩;refine ⟨_,rfl,?_⟩;have n0_:=am (Kd.R_below d11 hb);have n1_:=am (Kd.R_below d10 hb);have n2_:=am (Kd.R_lower ho0 (pz (by repeat (first|(with_reducible first|exact HB.out|apply pa|apply pb|apply pd|refine pt ?_ GE395.out|refine pt ?_ GE407.out|refine pt ?_ GE418.out)|exact HB.out))));have n3_:=am (qb (g:=gb395) (o:=.cells #[.int .i64 a0_0, .int .i64 a0_1] 65 (0,0)) (by (with_reducible repeat (first|refine qn ?_ _|refine qd ?_|refine qa ?_ _));exact BK395.out) hb);have n4_:=am (qb (g:=gb407) (o:=.cells #[.int .i64 t402, .slice Ao23 t403.length co23] 69 (0,0)) (by (with_reducible repeat (first|refine qn ?_ _|refine qd ?_|refine qa ?_ _));exact BK407.out) hb);have n5_:=am (qb (g:=gb418) (o:=.cells #[.int .i64 t413, .slice Ao33 t414.length co33] 69 (0,0)) (by (with_reducible repeat (first|refine qn ?_ _|refine qd ?_|refine qa ?_ _));exact BK418.out) hb);have n6_:=am (pu (by repeat (first|(with_reducible first|exact HB.out|apply pa|apply pb|apply pd|refine pt ?_ GE395.out|refine pt ?_ GE407.out|refine pt ?_ GE418.out)|exact HB.out)) hb);clear HO_408001;clear HO_419001;clear BK395;clear BK407;clear BK418;clear HB;have HO_408001:=n0_;have HO_419001:=n1_;have HO434:=n2_;have BK395:=n3_;have BK407:=n4_;have BK418:=n5_;have HB:=n6_;clear n0_ n1_ n2_ n3_ n4_ n5_ n6_;(try clear hb);(try clear hb2);(try clear hk);(try clear hi);(try clear ho0);obtain ⟨Ao98,co98,eo98⟩:=Kd.R_slice HO434.out;subst eo98)|((with_reducible refine gate_callee (f:=47) rfl ?_);refine goesL_ (some 89) rfl rfl Try.func47 d3 rfl #[.agg #[.int .i64 t430, .int .i64 t431], .int .i64 a1, .slice Ao98 t432.length co98] rfl d1 ?_;(with_reducible refine (impl_RegeneratePiece.calls kj52 t430 t431 a1 _ _ t432 t435 t436 t439 _ ?side1 ?side2 A86.out).mono ?_);(case side1=>repeat (first|exact (Kd.R_reads' HO434.out).2.2|(with_reducible refine Kd.C_alloc ?_ _)|(with_reducible refine Kd.C_drewN ?_ _)|(with_reducible refine Kd.C_drew ?_)));(case side2=>exact (Kd.R_reads' HO434.out).2.1);rintro e w99 ⟨v437,rfl,ho0,hb⟩;refine ⟨_,rfl,?_⟩;have n0_:=am (Kd.R_elder' d11 (Kd.R_base ho0) hb);have n1_:=am (Kd.R_elder' d10 (Kd.R_base ho0) hb);have n2_:=am (Kd.R_below (by (with_reducible repeat (first|apply Kd.R_alloc|apply Kd.R_drewN|apply Kd.R_drew));exact HO434.out) hb);have n3_:=am (Kd.R_lower (Kd.R_new' (Kd.R_new' ho0 (Kd.R_lt d11)) (Kd.R_lt d10)) (pz (by repeat (first|(with_reducible first|exact HB.out|apply pa|apply pb|apply pd|refine pt ?_ GE395.out|refine pt ?_ GE407.out|refine pt ?_ GE418.out)|exact HB.out))));have n4_:=am (qb (g:=gb395) (o:=.cells #[.int .i64 a0_0, .int .i64 a0_1] 65 (0,0)) (by (with_reducible repeat (first|refine qn ?_ _|refine qd ?_|refine qa ?_ _));exact BK395.out) hb);have n5_:=am (qb (g:=gb407) (o:=.cells #[.int .i64 t402, .slice Ao23 t403.length co23] 69 (0,0)) (by (with_reducible repeat (first|refine qn ?_ _|refine qd ?_|refine qa ?_ _));exact BK407.out) hb);have n6_:=am (qb (g:=gb418) (o:=.cells #[.int .i64 t413, .slice Ao33 t414.length co33] 69 (0,0)) (by (with_reducible repeat (first|refine qn ?_ _|refine qd ?_|refine qa ?_ _));exact BK418.out) hb);have n7_:=am (pu (by repeat (first|(with_reducible first|exact HB.out|apply pa|apply pb|apply pd|refine pt ?_ GE395.out|refine pt ?_ GE407.out|refine pt ?_ GE418.out)|exact HB.out)) hb);clear HO_408001;clear HO_419001;clear HO434;clear BK395;clear BK407;clear BK418;clear HB;have HO_408001:=n0_;have HO_419001:=n1_;have HO434:=n2_;have HO438:=n3_;have BK395:=n4_;have BK407:=n5_;have BK418:=n6_;have HB:=n7_;clear n0_ n1_ n2_ n3_ n4_ n5_ n6_ n7_;(try clear hb);(try clear hb2);(try clear hk);(try clear hi);(try clear ho0))|((with_reducible refine gate_dst (N:=16) rfl ?_);refine box_event ?hg (N:=16) ?hd (cs:=#[.int .i64 0, .slice none 0 0]) (t:=69) ?hr ?_;(case hd=>rfl);(case hg=>rfl);(case hr=>first|(go_simp;done)|(go_simp;rfl));intro gb440 hg w100 hbox hb;have n0_:=am (Kd.R_below d11 hb);have n1_:=am (Kd.R_below d10 hb);have n2_:=am (Kd.R_below (by (with_reducible repeat (first|apply Kd.R_alloc|apply Kd.R_drewN|apply Kd.R_drew));exact HO434.out) hb);have n3_:=am (Kd.R_below (by (with_reducible repeat (first|apply Kd.R_alloc|apply Kd.R_drewN|apply Kd.R_drew));exact HO438.out) hb);have n4_:=am (qb (g:=gb395) (o:=.cells #[.int .i64 a0_0, .int .i64 a0_1] 65 (0,0)) (by (with_reducible repeat (first|refine qn ?_ _|refine qd ?_|refine qa ?_ _));exact BK395.out) hb);have n5_:=am (qb (g:=gb407) (o:=.cells #[.int .i64 t402, .slice Ao23 t403.length co23] 69 (0,0)) (by (with_reducible repeat (first|refine qn ?_ _|refine qd ?_|refine qa ?_ _));exact BK407.out) hb);have n6_:=am (qb (g:=gb418) (o:=.cells #[.int .i64 t413, .slice Ao33 t414.length co33] 69 (0,0)) (by (with_reducible repeat (first|refine qn ?_ _|refine qd ?_|refine qa ?_ _));exact BK418.out) hb);have n7_:=am (pu (by repeat (first|(with_reducible first|exact HB.out|apply pa|apply pb|apply pd|refine pt ?_ GE395.out|refine pt ?_ GE407.out|refine pt ?_ GE418.out)|exact HB.out)) hb);have n8_:=am (hbox);have n9_:=am ((by rw [hg];exact (pz (by repeat (first|(with_reducible first|exact HB.out|apply pa|apply pb|apply pd|refine pt ?_ GE395.out|refine pt ?_ GE407.out|refine pt ?_ GE418.out)|exact HB.out))):w.heap.size≤gb440));have n10_:=n9_;have n11_:=am ((by rw [hg];exact Nat.ne_of_lt (blk_lt (g:=gb395) (o:=.cells #[.int .i64 a0_0, .int .i64 a0_1] 65 (0,0)) (by (with_reducible repeat (first|refine qn ?_ _|refine qd ?_|refine qa ?_ _));exact BK395.out)):gb395 ≠ gb440));have n12_:=am ((by rw [hg];exact Nat.ne_of_gt (blk_lt (g:=gb395) (o:=.cells #[.int .i64 a0_0, .int .i64 a0_1] 65 (0,0)) (by (with_reducible repeat (first|refine qn ?_ _|refine qd ?_|refine qa ?_ _));exact BK395.out)):gb440 ≠ gb395));have n13_:=am ((by rw [hg];exact Nat.ne_of_lt (blk_lt (g:=gb407) (o:=.cells #[.int .i64 t402, .slice Ao23 t403.length co23] 69 (0,0)) (by (with_reducible repeat (first|refine qn ?_ _|refine qd ?_|refine qa ?_ _));exact BK407.out)):gb407 ≠ gb440));have n14_:=am ((by rw [hg];exact Nat.ne_of_gt (blk_lt (g:=gb407) (o:=.cells #[.int .i64 t402, .slice Ao23 t403.length co23] 69 (0,0)) (by (with_reducible repeat (first|refine qn ?_ _|refine qd ?_|refine qa ?_ _));exact BK407.out)):gb440 ≠ gb407));have n15_:=am ((by rw [hg];exact Nat.ne_of_lt (blk_lt (g:=gb418) (o:=.cells #[.int .i64 t413, .slice Ao33 t414.length co33] 69 (0,0)) (by (with_reducible repeat (first|refine qn ?_ _|refine qd ?_|refine qa ?_ _));exact BK418.out)):gb418 ≠ gb440));have n16_:=am ((by rw [hg];exact Nat.ne_of_gt (blk_lt (g:=gb418) (o:=.cells #[.int .i64 t413, .slice Ao33 t414.length co33] 69 (0,0)) (by (with_reducible repeat (first|refine qn ?_ _|refine qd ?_|refine qa ?_ _));exact BK418.out)):gb440 ≠ gb418));clear HO_408001;clear HO_419001;clear HO434;clear HO438;clear BK395;clear BK407;clear BK418;clear HB;have HO_408001:=n0_;have HO_419001:=n1_;have HO434:=n2_;have HO438:=n3_;have BK395:=n4_;have BK407:=n5_;have BK418:=n6_;have HB:=n7_;have BK440:=n8_;have GW440:=n9_;have GE440:=n10_;have NB395_440:=n11_;have NB440_395:=n12_;have NB407_440:=n13_;have NB440_407:=n14_;have NB418_440:=n15_;have NB440_418:=n16_;clear n0_ n1_ n2_ n3_ n4_ n5_ n6_ n7_ n8_ n9_ n10_ n11_ n12_ n13_ n14_ n15_ n16_;clear hb hbox hg;have hnb101:=NB440_395.out;have hnc101:=NB395_440.out;have hnb102:=NB440_407.out;have hnc102:=NB407_440.out;have hnb103:=NB440_418.out;have hnc103:=NB418_440.out;have hcz104_0:w100.cell? ⟨gb440,0,none⟩=some (.int .i64 0):=(blk_cell BK440.out 0).trans rfl;have hcz104_1:w100.cell? ⟨gb440,1,none⟩=some (.slice none 0 0):=(blk_cell BK440.out 1).trans rfl;have hfz104_0:=blk_frozen BK440.out 0;have hfz104_1:=blk_frozen BK440.out 1;obtain ⟨Ao105,co105,eo105⟩:=Kd.R_slice HO438.out;subst eo105))
       (try simp only [Act.put,q1,q2,q3])
       go_cut [100] (fun v100 wc=>∃ (kq:Nat) (x100_86:Bool),v100 = .bool x100_86∧Aside0 (laws_FnExactRegeneratePiece.j2 kq t427 x100_86 t413 t428=some r)∧Aside0 (kq≤kj52)∧Aside0 (Kd.R (Kd.int .u8) 5 wc w.heap.size (fun k_=>some k_ ≠ ((.slice Ao33 t414.length co33):Value).ownBlock∧some k_ ≠ ((.slice Ao105 t436.length co105):Value).ownBlock) (.slice Ao23 t403.length co23) t403)∧Aside0 (Kd.R (Kd.int .u8) 5 wc w.heap.size (fun k_=>some k_ ≠ ((.slice Ao23 t403.length co23):Value).ownBlock∧some k_ ≠ ((.slice Ao105 t436.length co105):Value).ownBlock) (.slice Ao33 t414.length co33) t428)∧Aside0 (Kd.R (Kd.int .u8) 5 wc w.heap.size (fun k_=>some k_ ≠ ((.slice Ao23 t403.length co23):Value).ownBlock∧some k_ ≠ ((.slice Ao33 t414.length co33):Value).ownBlock) (.slice Ao105 t436.length co105) t436)∧Aside0 (wc.heap[gb395]? = some (.cells #[.int .i64 a0_0, .int .i64 a0_1] 65 (0,0)))∧Aside0 (wc.heap[gb407]? = some (.cells #[.int .i64 t402,(.slice Ao23 t403.length co23)] 69 (0,0)))∧Aside0 (wc.heap[gb418]? = some (.cells #[.int .i64 t413,(.slice Ao33 t414.length co33)] 69 (0,0)))∧Aside0 (wc.heap[gb440]? = some (.cells #[.int .i64 t435,(.slice Ao105 t436.length co105)] 69 (0,0)))∧Aside0 (Below w.heap.size w wc))
       case first =>
        have H:=HC87.out
        clear HC87
        replace H:=Option.bind_eq_some_iff.mp H
        obtain ⟨t441,A1060,H⟩:=H
        replace H:(if t441=true then (laws_FnExactRegeneratePiece.j2 kj52 t427 (t439 != t406) t413 t428) else (laws_FnExactRegeneratePiece.j2 kj52 t427 true t413 t428))=some r:=H
        have A106:=am A1060
        clear A1060
        by_cases c107:t441=true
        ·subst c107
         have H1:(laws_FnExactRegeneratePiece.j2 kj52 t427 (t439 != t406) t413 t428)=some r:=by rw [if_pos rfl] at H;exact H
         clear H
         have H:=H1
         clear H1
         have H':=am H
         clear H
         have hnb108:=NB440_395.out
         have hnc108:=NB395_440.out
         have hnb109:=NB440_407.out
         have hnc109:=NB407_440.out
         have hnb110:=NB440_418.out
         have hnc110:=NB418_440.out
         have hcz111_0:w100.cell? ⟨gb440,0,none⟩=some (.int .i64 0):=(blk_cell BK440.out 0).trans rfl
         have hcz111_1:w100.cell? ⟨gb440,1,none⟩=some (.slice none 0 0):=(blk_cell BK440.out 1).trans rfl
         have hfz111_0:=blk_frozen BK440.out 0
         have hfz111_1:=blk_frozen BK440.out 1
         have hnb112:=NB407_395.out
         have hnc112:=NB395_407.out
         have hnb113:=NB407_418.out
         have hnc113:=NB418_407.out
         have hcz114_0:w100.cell? ⟨gb407,0,none⟩=some (.int .i64 t402):=(blk_cell BK407.out 0).trans rfl
         have hcz114_1:w100.cell? ⟨gb407,1,none⟩=some (.slice Ao23 t403.length co23):=(blk_cell BK407.out 1).trans rfl
         have hfz114_0:=blk_frozen BK407.out 0
         have hfz114_1:=blk_frozen BK407.out 1
         go_wp2_with (first|((with_reducible refine gate_callee (f:=48) rfl ?_);refine goesL_ (some 94) rfl rfl Try.func48 d3 rfl #[.agg #[.int .i64 t435, .slice Ao105 t436.length co105], .agg #[.int .i64 t402, .slice Ao23 t403.length co23]] rfl d1 ?_;(with_reducible refine (laws_eqPiece.calls kj52 t435 _ _ t436 t402 _ _ t403 true _ ?side1 ?side2 ?side3 ?side4 A106.out).mono ?_);(case side1=>refine (Kd.R_reads' (e:=5) (base:=w.heap.size) (ok:=fun k_=>((True∧some k_ ≠ (.slice Ao23 t403.length co23:Value).ownBlock)∧some k_ ≠ (.slice Ao33 t414.length co33:Value).ownBlock)) (n:=t436.length) (c:=co105) ?_).2.2;exact d24);(case side2=>exact (Kd.R_reads' HO438.out).2.1);(case side3=>refine (Kd.R_reads' (e:=5) (base:=w.heap.size) (ok:=fun k_=>(some k_ ≠ (.slice Ao33 t414.length co33:Value).ownBlock∧some k_ ≠ (.slice Ao105 t436.length co105:Value).ownBlock)) (n:=t403.length) (c:=co23) ?_).2.2;exact d23);(case side4=>exact (Kd.R_reads' HO_408001.out).2.1);rintro e w115 ⟨rfl,hb⟩;refine ⟨_,rfl,?_⟩;have n0_:=am (Kd.R_below d23 hb);have n1_:=am (Kd.R_below d41 hb);have n2_:=am (Kd.R_below d42 hb);have n3_:=am (Kd.R_below d24 hb);have n4_:=am (qb (g:=gb395) (o:=.cells #[.int .i64 a0_0, .int .i64 a0_1] 65 (0,0)) (by (with_reducible repeat (first|refine qn ?_ _|refine qd ?_|refine qa ?_ _));refine blk_far ?_ NB395_440.out _;(with_reducible repeat (first|refine qn ?_ _|refine qd ?_|refine qa ?_ _));refine blk_far ?_ NB395_440.out _;(with_reducible repeat (first|refine qn ?_ _|refine qd ?_|refine qa ?_ _));exact BK395.out) hb);have n5_:=am (qb (g:=gb407) (o:=.cells #[.int .i64 t402, .slice Ao23 t403.length co23] 69 (0,0)) (by (with_reducible repeat (first|refine qn ?_ _|refine qd ?_|refine qa ?_ _));refine blk_far ?_ NB407_440.out _;(with_reducible repeat (first|refine qn ?_ _|refine qd ?_|refine qa ?_ _));refine blk_far ?_ NB407_440.out _;(with_reducible repeat (first|refine qn ?_ _|refine qd ?_|refine qa ?_ _));exact BK407.out) hb);have n6_:=am (qb (g:=gb418) (o:=.cells #[.int .i64 t413, .slice Ao33 t414.length co33] 69 (0,0)) (by (with_reducible repeat (first|refine qn ?_ _|refine qd ?_|refine qa ?_ _));refine blk_far ?_ NB418_440.out _;(with_reducible repeat (first|refine qn ?_ _|refine qd ?_|refine qa ?_ _));refine blk_far ?_ NB418_440.out _;(with_reducible repeat (first|refine qn ?_ _|refine qd ?_|refine qa ?_ _));exact BK418.out) hb);have n7_:=am (qb (g:=gb440) (o:=.cells #[.int .i64 t435, .slice Ao105 t436.length co105] 69 (0,0)) (by (with_reducible repeat (first|refine qn ?_ _|refine qd ?_|refine qa ?_ _));refine blk_put (cs:=#[.int .i64 t435, .slice none 0 0]) ?_ 1 _ rfl;(with_reducible repeat (first|refine qn ?_ _|refine qd ?_|refine qa ?_ _));refine blk_put (cs:=#[.int .i64 0, .slice none 0 0]) ?_ 0 _ rfl;(with_reducible repeat (first|refine qn ?_ _|refine qd ?_|refine qa ?_ _));exact BK440.out) hb);have n8_:=am (pu (by repeat (first|(with_reducible first|exact HB.out|apply pa|apply pb|apply pd|refine pt ?_ GE395.out|refine pt ?_ GE407.out|refine pt ?_ GE418.out|refine pt ?_ GE440.out)|exact HB.out)) hb);clear HO_408001;clear HO_419001;clear HO434;clear HO438;clear BK395;clear BK407;clear BK418;clear BK440;clear HB;have HO_408001:=n0_;have HO_419001:=n1_;have HO434:=n2_;have HO438:=n3_;have BK395:=n4_;have BK407:=n5_;have BK418:=n6_;have BK440:=n7_;have HB:=n8_;clear n0_ n1_ n2_ n3_ n4_ n5_ n6_ n7_ n8_;(try clear hb);(try clear hb2);(try clear hk);(try clear hi)))
         go_meet
         case rel=>exact ⟨_,((t439 != t406)),d4,H',⟨by have:=HJ12.out;have:=HJ52.out;first|omega|exact Nat.le_refl _⟩,⟨d11⟩,⟨d10⟩,⟨d68⟩,⟨by (with_reducible repeat (first|refine qn ?_ _|refine qd ?_|refine qa ?_ _));exact BK395.out⟩,⟨by (with_reducible repeat (first|refine qn ?_ _|refine qd ?_|refine qa ?_ _));exact BK407.out⟩,⟨by (with_reducible repeat (first|refine qn ?_ _|refine qd ?_|refine qa ?_ _));exact BK418.out⟩,⟨by (with_reducible repeat (first|refine qn ?_ _|refine qd ?_|refine qa ?_ _));exact BK440.out⟩,⟨by repeat (first|(with_reducible first|exact HB.out|apply pa|apply pb|apply pd|refine pt ?_ GE395.out|refine pt ?_ GE407.out|refine pt ?_ GE418.out|refine pt ?_ GE440.out)|exact HB.out)⟩⟩
        replace c107:=Bool.eq_false_iff.mpr c107
        subst c107
        have H1:(laws_FnExactRegeneratePiece.j2 kj52 t427 true t413 t428)=some r:=by rw [if_neg (show ¬ (false=true) by decide)] at H;exact H
        clear H
        have H:=H1
        clear H1
        have H':=am H
        clear H
        have hnb116:=NB440_395.out
        have hnc116:=NB395_440.out
        have hnb117:=NB440_407.out
        have hnc117:=NB407_440.out
        have hnb118:=NB440_418.out
        have hnc118:=NB418_440.out
        have hcz119_0:w100.cell? ⟨gb440,0,none⟩=some (.int .i64 0):=(blk_cell BK440.out 0).trans rfl
        have hcz119_1:w100.cell? ⟨gb440,1,none⟩=some (.slice none 0 0):=(blk_cell BK440.out 1).trans rfl
        have hfz119_0:=blk_frozen BK440.out 0
        have hfz119_1:=blk_frozen BK440.out 1
        have hnb120:=NB407_395.out
        have hnc120:=NB395_407.out
        have hnb121:=NB407_418.out
        have hnc121:=NB418_407.out
        have hcz122_0:w100.cell? ⟨gb407,0,none⟩=some (.int .i64 t402):=(blk_cell BK407.out 0).trans rfl
        have hcz122_1:w100.cell? ⟨gb407,1,none⟩=some (.slice Ao23 t403.length co23):=(blk_cell BK407.out 1).trans rfl
        have hfz122_0:=blk_frozen BK407.out 0
        have hfz122_1:=blk_frozen BK407.out 1
        go_wp2_with (first|((with_reducible refine gate_callee (f:=48) rfl ?_);refine goesL_ (some 94) rfl rfl Try.func48 d3 rfl #[.agg #[.int .i64 t435, .slice Ao105 t436.length co105], .agg #[.int .i64 t402, .slice Ao23 t403.length co23]] rfl d1 ?_;(with_reducible refine (laws_eqPiece.calls kj52 t435 _ _ t436 t402 _ _ t403 false _ ?side1 ?side2 ?side3 ?side4 A106.out).mono ?_);(case side1=>refine (Kd.R_reads' (e:=5) (base:=w.heap.size) (ok:=fun k_=>((True∧some k_ ≠ (.slice Ao23 t403.length co23:Value).ownBlock)∧some k_ ≠ (.slice Ao33 t414.length co33:Value).ownBlock)) (n:=t436.length) (c:=co105) ?_).2.2;exact d24);(case side2=>exact (Kd.R_reads' HO438.out).2.1);(case side3=>refine (Kd.R_reads' (e:=5) (base:=w.heap.size) (ok:=fun k_=>(some k_ ≠ (.slice Ao33 t414.length co33:Value).ownBlock∧some k_ ≠ (.slice Ao105 t436.length co105:Value).ownBlock)) (n:=t403.length) (c:=co23) ?_).2.2;exact d23);(case side4=>exact (Kd.R_reads' HO_408001.out).2.1);rintro e w123 ⟨rfl,hb⟩;refine ⟨_,rfl,?_⟩;have n0_:=am (Kd.R_below d23 hb);have n1_:=am (Kd.R_below d41 hb);have n2_:=am (Kd.R_below d42 hb);have n3_:=am (Kd.R_below d24 hb);have n4_:=am (qb (g:=gb395) (o:=.cells #[.int .i64 a0_0, .int .i64 a0_1] 65 (0,0)) (by (with_reducible repeat (first|refine qn ?_ _|refine qd ?_|refine qa ?_ _));refine blk_far ?_ NB395_440.out _;(with_reducible repeat (first|refine qn ?_ _|refine qd ?_|refine qa ?_ _));refine blk_far ?_ NB395_440.out _;(with_reducible repeat (first|refine qn ?_ _|refine qd ?_|refine qa ?_ _));exact BK395.out) hb);have n5_:=am (qb (g:=gb407) (o:=.cells #[.int .i64 t402, .slice Ao23 t403.length co23] 69 (0,0)) (by (with_reducible repeat (first|refine qn ?_ _|refine qd ?_|refine qa ?_ _));refine blk_far ?_ NB407_440.out _;(with_reducible repeat (first|refine qn ?_ _|refine qd ?_|refine qa ?_ _));refine blk_far ?_ NB407_440.out _;(with_reducible repeat (first|refine qn ?_ _|refine qd ?_|refine qa ?_ _));exact BK407.out) hb);have n6_:=am (qb (g:=gb418) (o:=.cells #[.int .i64 t413, .slice Ao33 t414.length co33] 69 (0,0)) (by (with_reducible repeat (first|refine qn ?_ _|refine qd ?_|refine qa ?_ _));refine blk_far ?_ NB418_440.out _;(with_reducible repeat (first|refine qn ?_ _|refine qd ?_|refine qa ?_ _));refine blk_far ?_ NB418_440.out _;(with_reducible repeat (first|refine qn ?_ _|refine qd ?_|refine qa ?_ _));exact BK418.out) hb);have n7_:=am (qb (g:=gb440) (o:=.cells #[.int .i64 t435, .slice Ao105 t436.length co105] 69 (0,0)) (by (with_reducible repeat (first|refine qn ?_ _|refine qd ?_|refine qa ?_ _));refine blk_put (cs:=#[.int .i64 t435, .slice none 0 0]) ?_ 1 _ rfl;(with_reducible repeat (first|refine qn ?_ _|refine qd ?_|refine qa ?_ _));refine blk_put (cs:=#[.int .i64 0, .slice none 0 0]) ?_ 0 _ rfl;(with_reducible repeat (first|refine qn ?_ _|refine qd ?_|refine qa ?_ _));exact BK440.out) hb);have n8_:=am (pu (by repeat (first|(with_reducible first|exact HB.out|apply pa|apply pb|apply pd|refine pt ?_ GE395.out|refine pt ?_ GE407.out|refine pt ?_ GE418.out|refine pt ?_ GE440.out)|exact HB.out)) hb);clear HO_408001;clear HO_419001;clear HO434;clear HO438;clear BK395;clear BK407;clear BK418;clear BK440;clear HB;have HO_408001:=n0_;have HO_419001:=n1_;have HO434:=n2_;have HO438:=n3_;have BK395:=n4_;have BK407:=n5_;have BK418:=n6_;have BK440:=n7_;have HB:=n8_;clear n0_ n1_ n2_ n3_ n4_ n5_ n6_ n7_ n8_;(try clear hb);(try clear hb2);(try clear hk);(try clear hi)))
        go_meet
        case rel=>exact ⟨_,(true),d4,H',⟨by have:=HJ12.out;have:=HJ52.out;first|omega|exact Nat.le_refl _⟩,⟨d11⟩,⟨d10⟩,⟨d68⟩,⟨by (with_reducible repeat (first|refine qn ?_ _|refine qd ?_|refine qa ?_ _));exact BK395.out⟩,⟨by (with_reducible repeat (first|refine qn ?_ _|refine qd ?_|refine qa ?_ _));exact BK407.out⟩,⟨by (with_reducible repeat (first|refine qn ?_ _|refine qd ?_|refine qa ?_ _));exact BK418.out⟩,⟨by (with_reducible repeat (first|refine qn ?_ _|refine qd ?_|refine qa ?_ _));exact BK440.out⟩,⟨by repeat (first|(with_reducible first|exact HB.out|apply pa|apply pb|apply pd|refine pt ?_ GE395.out|refine pt ?_ GE407.out|refine pt ?_ GE418.out|refine pt ?_ GE440.out)|exact HB.out)⟩⟩
       case rest =>
        clear HC87
        try clear c1
        try clear c2
        try clear p2
        try clear c3
        try clear c4
        try clear c5
        try clear c5b0
        try clear c6
        try clear c7
        try clear c8
        try clear c9
        try clear c10
        try clear c11
        try clear c12
        try clear c21
        try clear c30
        try clear c31
        try clear c35
        try clear c36
        try clear c37
        try clear c39
        try clear c42
        try clear c43
        try clear c44
        try clear c45
        try clear c46
        try clear c47
        try clear c48
        try clear c49
        try clear c50
        try clear c51
        try clear c52
        try clear c58
        try clear c58b0
        try clear c60
        try clear c61
        try clear c62
        try clear c64
        try clear c67
        try clear c68
        try clear c70
        try clear c73
        try clear c76
        try clear c76b0
        try clear c77
        try clear c78
        try clear c83
        try clear c83b0
        try clear c83b1
        try clear c88
        try clear c89
        try clear c94
        try clear c101
        try clear c102
        try clear c103
        try clear c107
        try clear c108
        try clear c109
        try clear c110
        try clear c112
        try clear c113
        try clear c116
        try clear c117
        try clear c118
        try clear c120
        try clear c121
        try clear hcz104_0
        try clear hcz104_1
        try clear hcz111_0
        try clear hcz111_1
        try clear hcz114_0
        try clear hcz114_1
        try clear hcz119_0
        try clear hcz119_1
        try clear hcz122_0
        try clear hcz122_1
        try clear hcz15_0
        try clear hcz15_1
        try clear hcz22_0
        try clear hcz22_1
        try clear hcz25_0
        try clear hcz25_1
        try clear hcz32_0
        try clear hcz32_1
        try clear hcz38_0
        try clear hcz38_1
        try clear hcz40_0
        try clear hcz40_1
        try clear hcz44_0
        try clear hcz44_1
        try clear hcz46_0
        try clear hcz46_1
        try clear hcz63_0
        try clear hcz63_1
        try clear hcz65_0
        try clear hcz65_1
        try clear hcz69_0
        try clear hcz69_1
        try clear hcz71_0
        try clear hcz71_1
        try clear hcz79_0
        try clear hcz79_1
        try clear hcz81_0
        try clear hcz81_1
        try clear hcz90_0
        try clear hcz90_1
        try clear hcz92_0
        try clear hcz92_1
        try clear hcz95_0
        try clear hcz95_1
        try clear hfz104_0
        try clear hfz104_1
        try clear hfz111_0
        try clear hfz111_1
        try clear hfz114_0
        try clear hfz114_1
        try clear hfz119_0
        try clear hfz119_1
        try clear hfz122_0
        try clear hfz122_1
        try clear hfz15_0
        try clear hfz15_1
        try clear hfz22_0
        try clear hfz22_1
        try clear hfz25_0
        try clear hfz25_1
        try clear hfz32_0
        try clear hfz32_1
        try clear hfz38_0
        try clear hfz38_1
        try clear hfz40_0
        try clear hfz40_1
        try clear hfz44_0
        try clear hfz44_1
        try clear hfz46_0
        try clear hfz46_1
        try clear hfz63_0
        try clear hfz63_1
        try clear hfz65_0
        try clear hfz65_1
        try clear hfz69_0
        try clear hfz69_1
        try clear hfz71_0
        try clear hfz71_1
        try clear hfz79_0
        try clear hfz79_1
        try clear hfz81_0
        try clear hfz81_1
        try clear hfz90_0
        try clear hfz90_1
        try clear hfz92_0
        try clear hfz92_1
        try clear hfz95_0
        try clear hfz95_1
        try clear p2
        obtain ⟨kq,x100_86,rfl,HA,HJ86,HO_408001,HO_419001,HO_441001,BK395,BK407,BK418,BK440,HB⟩:=hcut
        have hl419001_86:=(Kd.R_reads' HO_419001.out).1
        rw [hl419001_86] at HO_419001
        (try simp only [hl419001_86])
        (try simp only [hl419001_86] at BK395)
        (try simp only [hl419001_86] at BK407)
        (try simp only [hl419001_86] at BK418)
        (try simp only [hl419001_86] at BK440)
        (try simp only [hl419001_86] at HO_408001)
        (try simp only [hl419001_86] at HO_441001)
        cases kq with
        | zero=>exact absurd HA.out (by simp [laws_FnExactRegeneratePiece.j2])
        | succ kj86 =>
         have H:=HA.out
         clear HA
         simp only [laws_FnExactRegeneratePiece.j2] at H
         by_cases c124:x100_86=true
         ·subst c124
          have H1:(some false)=some r:=by rw [if_pos rfl] at H;exact H
          clear H
          have H:=H1
          clear H1
          obtain rfl:=Option.some.inj H
          go_wp2
          go_ret
          exact ⟨d5,by repeat (first|(with_reducible first|exact HB.out|apply pa|apply pb|apply pd|refine pt ?_ GE395.out|refine pt ?_ GE407.out|refine pt ?_ GE418.out|refine pt ?_ GE440.out)|exact HB.out)⟩
         replace c124:=Bool.eq_false_iff.mpr c124
         subst c124
         have H1:((laws_heldPiece.f kj86 t413 t428 1).bind fun t442=>(if t442 < 0 then (some false) else (if t442=t427 then (some true) else (some false))))=some r:=by rw [if_neg (show ¬ (false=true) by decide)] at H;exact H
         clear H
         have H:=H1
         clear H1
         replace H:=Option.bind_eq_some_iff.mp H
         obtain ⟨t442,A1250,H⟩:=H
         replace H:(if t442 < 0 then (some false) else (if t442=t427 then (some true) else (some false)))=some r:=H
         have A125:=am A1250
         clear A1250
         by_cases c126:t442 < 0
         ·rw [if_pos c126] at H
          have c126b0:decide (t442 < 0)=true:=decide_eq_true c126
          clear c126
          obtain rfl:=Option.some.inj H
          have hnb127:=NB418_395.out
          have hnc127:=NB395_418.out
          have hnb128:=NB418_407.out
          have hnc128:=NB407_418.out
          have hnb129:=NB418_440.out
          have hnc129:=NB440_418.out
          have hcz130_0:wc.cell? ⟨gb418,0,none⟩=some (.int .i64 t413):=(blk_cell BK418.out 0).trans rfl
          have hcz130_1:wc.cell? ⟨gb418,1,none⟩=some (.slice Ao33 t428.length co33):=(blk_cell BK418.out 1).trans rfl
          have hfz130_0:=blk_frozen BK418.out 0
          have hfz130_1:=blk_frozen BK418.out 1
          go_wp2_with (first|((with_reducible refine gate_callee (f:=52) rfl ?_);refine goesL_ (some 103) rfl rfl Try.func52 d3 rfl #[.agg #[.int .i64 t413, .slice Ao33 t428.length co33], .int .i64 1] rfl d1 ?_;(with_reducible refine (laws_heldPiece.calls kj86 t413 _ _ t428 1 t442 _ ?side1 ?side2 A125.out).mono ?_);(case side1=>repeat (first|exact (Kd.R_reads' HO_419001.out).2.2|(with_reducible refine Kd.C_alloc ?_ _)|(with_reducible refine Kd.C_drewN ?_ _)|(with_reducible refine Kd.C_drew ?_)));(case side2=>exact (Kd.R_reads' HO_419001.out).2.1);rintro e w131 ⟨rfl,hb⟩;refine ⟨_,rfl,?_⟩;have n0_:=am (Kd.R_below d11 hb);have n1_:=am (Kd.R_below d10 hb);have n2_:=am (Kd.R_below d56 hb);have n3_:=am (qb (g:=gb395) (o:=.cells #[.int .i64 a0_0, .int .i64 a0_1] 65 (0,0)) (by (with_reducible repeat (first|refine qn ?_ _|refine qd ?_|refine qa ?_ _));exact BK395.out) hb);have n4_:=am (qb (g:=gb407) (o:=.cells #[.int .i64 t402, .slice Ao23 t403.length co23] 69 (0,0)) (by (with_reducible repeat (first|refine qn ?_ _|refine qd ?_|refine qa ?_ _));exact BK407.out) hb);have n5_:=am (qb (g:=gb418) (o:=.cells #[.int .i64 t413, .slice Ao33 t428.length co33] 69 (0,0)) (by (with_reducible repeat (first|refine qn ?_ _|refine qd ?_|refine qa ?_ _));exact BK418.out) hb);have n6_:=am (qb (g:=gb440) (o:=.cells #[.int .i64 t435, .slice Ao105 t436.length co105] 69 (0,0)) (by (with_reducible repeat (first|refine qn ?_ _|refine qd ?_|refine qa ?_ _));exact BK440.out) hb);have n7_:=am (pu (by repeat (first|(with_reducible first|exact HB.out|apply pa|apply pb|apply pd|refine pt ?_ GE395.out|refine pt ?_ GE407.out|refine pt ?_ GE418.out|refine pt ?_ GE440.out)|exact HB.out)) hb);clear HO_408001;clear HO_419001;clear HO_441001;clear BK395;clear BK407;clear BK418;clear BK440;clear HB;have HO_408001:=n0_;have HO_419001:=n1_;have HO_441001:=n2_;have BK395:=n3_;have BK407:=n4_;have BK418:=n5_;have BK440:=n6_;have HB:=n7_;clear n0_ n1_ n2_ n3_ n4_ n5_ n6_ n7_;(try clear hb);(try clear hb2);(try clear hk);(try clear hi)))
          go_ret
          exact ⟨d5,by repeat (first|(with_reducible first|exact HB.out|apply pa|apply pb|apply pd|refine pt ?_ GE395.out|refine pt ?_ GE407.out|refine pt ?_ GE418.out|refine pt ?_ GE440.out)|exact HB.out)⟩
         rw [if_neg c126] at H
         have c126b0:decide (t442 < 0)=false:=decide_eq_false c126
         clear c126
         by_cases c132:t442=t427
         ·rw [if_pos c132] at H
          have c132b0:(t442 == t427)=true:=beq_iff_eq.mpr c132
          have c132b1:(t442 != t427)=false:=bne_eq_false_iff_eq.mpr c132
          clear c132
          obtain rfl:=Option.some.inj H
          have hnb133:=NB418_395.out
          have hnc133:=NB395_418.out
          have hnb134:=NB418_407.out
          have hnc134:=NB407_418.out
          have hnb135:=NB418_440.out
          have hnc135:=NB440_418.out
          have hcz136_0:wc.cell? ⟨gb418,0,none⟩=some (.int .i64 t413):=(blk_cell BK418.out 0).trans rfl
          have hcz136_1:wc.cell? ⟨gb418,1,none⟩=some (.slice Ao33 t428.length co33):=(blk_cell BK418.out 1).trans rfl
          have hfz136_0:=blk_frozen BK418.out 0
          have hfz136_1:=blk_frozen BK418.out 1
          go_wp2_with (first|((with_reducible refine gate_callee (f:=52) rfl ?_);refine goesL_ (some 103) rfl rfl Try.func52 d3 rfl #[.agg #[.int .i64 t413, .slice Ao33 t428.length co33], .int .i64 1] rfl d1 ?_;(with_reducible refine (laws_heldPiece.calls kj86 t413 _ _ t428 1 t442 _ ?side1 ?side2 A125.out).mono ?_);(case side1=>repeat (first|exact (Kd.R_reads' HO_419001.out).2.2|(with_reducible refine Kd.C_alloc ?_ _)|(with_reducible refine Kd.C_drewN ?_ _)|(with_reducible refine Kd.C_drew ?_)));(case side2=>exact (Kd.R_reads' HO_419001.out).2.1);rintro e w137 ⟨rfl,hb⟩;refine ⟨_,rfl,?_⟩;have n0_:=am (Kd.R_below d11 hb);have n1_:=am (Kd.R_below d10 hb);have n2_:=am (Kd.R_below d56 hb);have n3_:=am (qb (g:=gb395) (o:=.cells #[.int .i64 a0_0, .int .i64 a0_1] 65 (0,0)) (by (with_reducible repeat (first|refine qn ?_ _|refine qd ?_|refine qa ?_ _));exact BK395.out) hb);have n4_:=am (qb (g:=gb407) (o:=.cells #[.int .i64 t402, .slice Ao23 t403.length co23] 69 (0,0)) (by (with_reducible repeat (first|refine qn ?_ _|refine qd ?_|refine qa ?_ _));exact BK407.out) hb);have n5_:=am (qb (g:=gb418) (o:=.cells #[.int .i64 t413, .slice Ao33 t428.length co33] 69 (0,0)) (by (with_reducible repeat (first|refine qn ?_ _|refine qd ?_|refine qa ?_ _));exact BK418.out) hb);have n6_:=am (qb (g:=gb440) (o:=.cells #[.int .i64 t435, .slice Ao105 t436.length co105] 69 (0,0)) (by (with_reducible repeat (first|refine qn ?_ _|refine qd ?_|refine qa ?_ _));exact BK440.out) hb);have n7_:=am (pu (by repeat (first|(with_reducible first|exact HB.out|apply pa|apply pb|apply pd|refine pt ?_ GE395.out|refine pt ?_ GE407.out|refine pt ?_ GE418.out|refine pt ?_ GE440.out)|exact HB.out)) hb);clear HO_408001;clear HO_419001;clear HO_441001;clear BK395;clear BK407;clear BK418;clear BK440;clear HB;have HO_408001:=n0_;have HO_419001:=n1_;have HO_441001:=n2_;have BK395:=n3_;have BK407:=n4_;have BK418:=n5_;have BK440:=n6_;have HB:=n7_;clear n0_ n1_ n2_ n3_ n4_ n5_ n6_ n7_;(try clear hb);(try clear hb2);(try clear hk);(try clear hi)))
          go_ret
          exact ⟨d5,by repeat (first|(with_reducible first|exact HB.out|apply pa|apply pb|apply pd|refine pt ?_ GE395.out|refine pt ?_ GE407.out|refine pt ?_ GE418.out|refine pt ?_ GE440.out)|exact HB.out)⟩
         rw [if_neg c132] at H
         have c132b0:(t442 == t427)=false:=beq_eq_false_iff_ne.mpr c132
         have c132b1:(t442 != t427)=true:=bne_iff_ne.mpr c132
         obtain rfl:=Option.some.inj H
         have hnb138:=NB418_395.out
         have hnc138:=NB395_418.out
         have hnb139:=NB418_407.out
         have hnc139:=NB407_418.out
         have hnb140:=NB418_440.out
         have hnc140:=NB440_418.out
         have hcz141_0:wc.cell? ⟨gb418,0,none⟩=some (.int .i64 t413):=(blk_cell BK418.out 0).trans rfl
         have hcz141_1:wc.cell? ⟨gb418,1,none⟩=some (.slice Ao33 t428.length co33):=(blk_cell BK418.out 1).trans rfl
         have hfz141_0:=blk_frozen BK418.out 0
         have hfz141_1:=blk_frozen BK418.out 1
         go_wp2_with (first|((with_reducible refine gate_callee (f:=52) rfl ?_);refine goesL_ (some 103) rfl rfl Try.func52 d3 rfl #[.agg #[.int .i64 t413, .slice Ao33 t428.length co33], .int .i64 1] rfl d1 ?_;(with_reducible refine (laws_heldPiece.calls kj86 t413 _ _ t428 1 t442 _ ?side1 ?side2 A125.out).mono ?_);(case side1=>repeat (first|exact (Kd.R_reads' HO_419001.out).2.2|(with_reducible refine Kd.C_alloc ?_ _)|(with_reducible refine Kd.C_drewN ?_ _)|(with_reducible refine Kd.C_drew ?_)));(case side2=>exact (Kd.R_reads' HO_419001.out).2.1);rintro e w142 ⟨rfl,hb⟩;refine ⟨_,rfl,?_⟩;have n0_:=am (Kd.R_below d11 hb);have n1_:=am (Kd.R_below d10 hb);have n2_:=am (Kd.R_below d56 hb);have n3_:=am (qb (g:=gb395) (o:=.cells #[.int .i64 a0_0, .int .i64 a0_1] 65 (0,0)) (by (with_reducible repeat (first|refine qn ?_ _|refine qd ?_|refine qa ?_ _));exact BK395.out) hb);have n4_:=am (qb (g:=gb407) (o:=.cells #[.int .i64 t402, .slice Ao23 t403.length co23] 69 (0,0)) (by (with_reducible repeat (first|refine qn ?_ _|refine qd ?_|refine qa ?_ _));exact BK407.out) hb);have n5_:=am (qb (g:=gb418) (o:=.cells #[.int .i64 t413, .slice Ao33 t428.length co33] 69 (0,0)) (by (with_reducible repeat (first|refine qn ?_ _|refine qd ?_|refine qa ?_ _));exact BK418.out) hb);have n6_:=am (qb (g:=gb440) (o:=.cells #[.int .i64 t435, .slice Ao105 t436.length co105] 69 (0,0)) (by (with_reducible repeat (first|refine qn ?_ _|refine qd ?_|refine qa ?_ _));exact BK440.out) hb);have n7_:=am (pu (by repeat (first|(with_reducible first|exact HB.out|apply pa|apply pb|apply pd|refine pt ?_ GE395.out|refine pt ?_ GE407.out|refine pt ?_ GE418.out|refine pt ?_ GE440.out)|exact HB.out)) hb);clear HO_408001;clear HO_419001;clear HO_441001;clear BK395;clear BK407;clear BK418;clear BK440;clear HB;have HO_408001:=n0_;have HO_419001:=n1_;have HO_441001:=n2_;have BK395:=n3_;have BK407:=n4_;have BK418:=n5_;have BK440:=n6_;have HB:=n7_;clear n0_ n1_ n2_ n3_ n4_ n5_ n6_ n7_;(try clear hb);(try clear hb2);(try clear hk);(try clear hi)))
         go_ret
         exact ⟨d5,by repeat (first|(with_reducible first|exact HB.out|apply pa|apply pb|apply pd|refine pt ?_ GE395.out|refine pt ?_ GE407.out|refine pt ?_ GE418.out|refine pt ?_ GE440.out)|exact HB.out)⟩
      rw [if_neg c83] at H
      have c83b0:(t429 == t427)=false:=beq_eq_false_iff_ne.mpr c83
      have c83b1:(t429 != t427)=true:=bne_iff_ne.mpr c83
      obtain rfl:=Option.some.inj H
      have hnb143:=NB418_395.out
      have hnc143:=NB395_418.out
      have hnb144:=NB418_407.out
      have hnc144:=NB407_418.out
      have hcz145_0:wc.cell? ⟨gb418,0,none⟩=some (.int .i64 t413):=(blk_cell BK418.out 0).trans rfl
      have hcz145_1:wc.cell? ⟨gb418,1,none⟩=some (.slice Ao33 t414.length co33):=(blk_cell BK418.out 1).trans rfl
      have hfz145_0:=blk_frozen BK418.out 0
      have hfz145_1:=blk_frozen BK418.out 1
      go_wp2_with (first|((with_reducible refine gate_callee (f:=51) rfl ?_);refine goesL_ (some 74) rfl rfl Try.func51 d3 rfl #[.agg #[.int .i64 t413, .slice Ao33 t414.length co33], .int .i64 1] rfl d1 ?_;(with_reducible refine (laws_markPiece.calls kj52 t413 (fun k_=>some k_=(.slice Ao33 t414.length co33:Value).ownBlock) (.slice Ao33 t414.length co33) t414 1 t427 t428 w _ ?side1 ?side2 A74.out).mono ?_);(case side1=>repeat (first|(with_reducible first|exact HB.out|apply pa|apply pb|apply pd|refine pt ?_ GE395.out|refine pt ?_ GE407.out|refine pt ?_ GE418.out)|exact HB.out));(case side2=>exact Kd.R_tight rfl HO_419001.out);rintro e w146 ⟨rfl,hy0,hb,hkp⟩;refine ⟨_,rfl,?_⟩;have n0_:=am (Kd.R_mono (ok':=fun k_=>some k_ ≠ (.slice Ao33 t414.length co33:Value).ownBlock) (Kd.R_keptB (HO_408001.out) hkp (fun k_ hk_ hs_=>(hk_) hs_)) (fun k_ hk_=>hk_.1));have n1_:=am (Kd.R_reok rfl hy0 (fun k_ e_=>HO_419001.out.1 k_ e_));have n2_:=am (blk_kept (by (with_reducible repeat (first|refine qn ?_ _|refine qd ?_|refine qa ?_ _));exact BK395.out) hkp (fun hs_=>(fun e_=>(Kd.R_ne HO_419001.out BK395.out d8) e_) hs_));have n3_:=am (blk_kept (by (with_reducible repeat (first|refine qn ?_ _|refine qd ?_|refine qa ?_ _));exact BK407.out) hkp (fun hs_=>(fun e_=>(Kd.R_ne HO_419001.out BK407.out d8) e_) hs_));have n4_:=am (blk_kept (by (with_reducible repeat (first|refine qn ?_ _|refine qd ?_|refine qa ?_ _));exact BK418.out) hkp (fun hs_=>(fun e_=>(Kd.R_ne HO_419001.out BK418.out d8) e_) hs_));have n5_:=am (hb);clear HO_408001;clear HO_419001;clear BK395;clear BK407;clear BK418;clear HB;have HO_408001:=n0_;have HO_419001:=n1_;have BK395:=n2_;have BK407:=n3_;have BK418:=n4_;have HB:=n5_;clear n0_ n1_ n2_ n3_ n4_ n5_;(try clear hb);(try clear hkp);(try clear hy0);have hcz147_0:w146.cell? ⟨gb418,0,none⟩=some (.int .i64 t413):=(blk_cell BK418.out 0).trans rfl;have hcz147_1:w146.cell? ⟨gb418,1,none⟩=some (.slice Ao33 t414.length co33):=(blk_cell BK418.out 1).trans rfl;have hfz147_0:=blk_frozen BK418.out 0;have hfz147_1:=blk_frozen BK418.out 1)|((with_reducible refine gate_callee (f:=52) rfl ?_);refine goesL_ (some 77) rfl rfl Try.func52 d3 rfl #[.agg #[.int .i64 t413, .slice Ao33 t428.length co33], .int .i64 1] rfl d46 ?_;(with_reducible refine (laws_heldPiece.calls kj52 t413 _ _ t428 1 t429 _ ?side1 ?side2 A75.out).mono ?_);(case side1=>repeat (first|exact (Kd.R_reads' HO_419001.out).2.2|(with_reducible refine Kd.C_alloc ?_ _)|(with_reducible refine Kd.C_drewN ?_ _)|(with_reducible refine Kd.C_drew ?_)));(case side2=>rw [show t428.length=t414.length from (Kd.R_reads' HO_419001.out).1.symm];exact (Kd.R_reads' HO_419001.out).2.1);rintro e w148 ⟨rfl,hb⟩;refine ⟨_,rfl,?_⟩;have n0_:=am (Kd.R_below d11 hb);have n1_:=am (Kd.R_below d10 hb);have n2_:=am (qb (g:=gb395) (o:=.cells #[.int .i64 a0_0, .int .i64 a0_1] 65 (0,0)) (by (with_reducible repeat (first|refine qn ?_ _|refine qd ?_|refine qa ?_ _));exact BK395.out) hb);have n3_:=am (qb (g:=gb407) (o:=.cells #[.int .i64 t402, .slice Ao23 t403.length co23] 69 (0,0)) (by (with_reducible repeat (first|refine qn ?_ _|refine qd ?_|refine qa ?_ _));exact BK407.out) hb);have n4_:=am (qb (g:=gb418) (o:=.cells #[.int .i64 t413, .slice Ao33 t414.length co33] 69 (0,0)) (by (with_reducible repeat (first|refine qn ?_ _|refine qd ?_|refine qa ?_ _));exact BK418.out) hb);have n5_:=am (pu (by repeat (first|(with_reducible first|exact HB.out|apply pa|apply pb|apply pd|refine pt ?_ GE395.out|refine pt ?_ GE407.out|refine pt ?_ GE418.out)|exact HB.out)) hb);clear HO_408001;clear HO_419001;clear BK395;clear BK407;clear BK418;clear HB;have HO_408001:=n0_;have HO_419001:=n1_;have BK395:=n2_;have BK407:=n3_;have BK418:=n4_;have HB:=n5_;clear n0_ n1_ n2_ n3_ n4_ n5_;(try clear hb);(try clear hb2);(try clear hk);(try clear hi)))
      go_ret
      exact ⟨d5,by repeat (first|(with_reducible first|exact HB.out|apply pa|apply pb|apply pd|refine pt ?_ GE395.out|refine pt ?_ GE407.out|refine pt ?_ GE418.out)|exact HB.out)⟩
   replace c51:=Bool.eq_false_iff.mpr c51
   subst c51
   have H1:(some false)=some r:=by rw [if_neg (show ¬ (false=true) by decide)] at H;exact H
   clear H
   have H:=H1
   clear H1
   obtain rfl:=Option.some.inj H
   go_wp2_with (first|((with_reducible refine gate_callee (f:=46) rfl ?_);refine goesL_ (some 53) rfl rfl Try.func46 d3 rfl #[.slice A2 l2.length c2] rfl d1 ?_;(with_reducible refine (laws_toHelpS.calls kj12 _ _ l2 t420 _ ?side1 ?side2 A49.out).mono ?_);(case side1=>repeat (first|exact (Kd.C_below HR2.out HB.out)|(with_reducible refine Kd.C_alloc ?_ _)|(with_reducible refine Kd.C_drewN ?_ _)|(with_reducible refine Kd.C_drew ?_)));(case side2=>exact HC2.out);rintro e w149 ⟨v421,rfl,ho0,hb⟩;refine ⟨_,rfl,?_⟩;have n0_:=am (Kd.R_elder' d6 (Kd.R_base ho0) hb);have n1_:=am (Kd.R_below d11 hb);have n2_:=am (Kd.R_below d10 hb);have n3_:=am (Kd.R_lower (Kd.R_new' ho0 (Kd.R_lt d6)) (pz (by repeat (first|(with_reducible first|exact HB.out|apply pa|apply pb|apply pd|refine pt ?_ GE395.out|refine pt ?_ GE407.out|refine pt ?_ GE418.out)|exact HB.out))));have n4_:=am (qb (g:=gb395) (o:=.cells #[.int .i64 a0_0, .int .i64 a0_1] 65 (0,0)) (by (with_reducible repeat (first|refine qn ?_ _|refine qd ?_|refine qa ?_ _));exact BK395.out) hb);have n5_:=am (qb (g:=gb407) (o:=.cells #[.int .i64 t402, .slice Ao23 t403.length co23] 69 (0,0)) (by (with_reducible repeat (first|refine qn ?_ _|refine qd ?_|refine qa ?_ _));exact BK407.out) hb);have n6_:=am (qb (g:=gb418) (o:=.cells #[.int .i64 t413, .slice Ao33 t414.length co33] 69 (0,0)) (by (with_reducible repeat (first|refine qn ?_ _|refine qd ?_|refine qa ?_ _));exact BK418.out) hb);have n7_:=am (pu (by repeat (first|(with_reducible first|exact HB.out|apply pa|apply pb|apply pd|refine pt ?_ GE395.out|refine pt ?_ GE407.out|refine pt ?_ GE418.out)|exact HB.out)) hb);clear HO_10;clear HO_408001;clear HO_419001;clear BK395;clear BK407;clear BK418;clear HB;have HO_10:=n0_;have HO_408001:=n1_;have HO_419001:=n2_;have HO422:=n3_;have BK395:=n4_;have BK407:=n5_;have BK418:=n6_;have HB:=n7_;clear n0_ n1_ n2_ n3_ n4_ n5_ n6_ n7_;(try clear hb);(try clear hb2);(try clear hk);(try clear hi);(try clear ho0);obtain ⟨Ao150,co150,eo150⟩:=Kd.R_slice HO422.out;subst eo150)|((with_reducible refine gate_callee (f:=49) rfl ?_);refine goesL_ (some 54) rfl rfl Try.func49 d3 rfl #[.slice Ao27 t408.length co27, .slice Ao150 t420.length co150] rfl d1 ?_;(with_reducible refine (laws_eqHelpS.calls kj12 _ _ t408 _ _ t420 false _ ?side1 ?side2 ?side3 ?side4 A50.out).mono ?_);(case side1=>repeat (first|exact (Kd.R_reads' HO_10.out).2.2|(with_reducible refine Kd.C_alloc ?_ _)|(with_reducible refine Kd.C_drewN ?_ _)|(with_reducible refine Kd.C_drew ?_)));(case side2=>exact (Kd.R_reads' HO_10.out).2.1);(case side3=>repeat (first|exact (Kd.R_reads' HO422.out).2.2|(with_reducible refine Kd.C_alloc ?_ _)|(with_reducible refine Kd.C_drewN ?_ _)|(with_reducible refine Kd.C_drew ?_)));(case side4=>exact (Kd.R_reads' HO422.out).2.1);rintro e w151 ⟨rfl,hb⟩;refine ⟨_,rfl,?_⟩;have n0_:=am (Kd.R_below d6 hb);have n1_:=am (Kd.R_below d11 hb);have n2_:=am (Kd.R_below d10 hb);have n3_:=am (Kd.R_below d47 hb);have n4_:=am (qb (g:=gb395) (o:=.cells #[.int .i64 a0_0, .int .i64 a0_1] 65 (0,0)) (by (with_reducible repeat (first|refine qn ?_ _|refine qd ?_|refine qa ?_ _));exact BK395.out) hb);have n5_:=am (qb (g:=gb407) (o:=.cells #[.int .i64 t402, .slice Ao23 t403.length co23] 69 (0,0)) (by (with_reducible repeat (first|refine qn ?_ _|refine qd ?_|refine qa ?_ _));exact BK407.out) hb);have n6_:=am (qb (g:=gb418) (o:=.cells #[.int .i64 t413, .slice Ao33 t414.length co33] 69 (0,0)) (by (with_reducible repeat (first|refine qn ?_ _|refine qd ?_|refine qa ?_ _));exact BK418.out) hb);have n7_:=am (pu (by repeat (first|(with_reducible first|exact HB.out|apply pa|apply pb|apply pd|refine pt ?_ GE395.out|refine pt ?_ GE407.out|refine pt ?_ GE418.out)|exact HB.out)) hb);clear HO_10;clear HO_408001;clear HO_419001;clear HO422;clear BK395;clear BK407;clear BK418;clear HB;have HO_10:=n0_;have HO_408001:=n1_;have HO_419001:=n2_;have HO422:=n3_;have BK395:=n4_;have BK407:=n5_;have BK418:=n6_;have HB:=n7_;clear n0_ n1_ n2_ n3_ n4_ n5_ n6_ n7_;(try clear hb);(try clear hb2);(try clear hk);(try clear hi)))
   go_ret
   exact ⟨d5,by repeat (first|(with_reducible first|exact HB.out|apply pa|apply pb|apply pd|refine pt ?_ GE395.out|refine pt ?_ GE407.out|refine pt ?_ GE418.out)|exact HB.out)⟩

end Go.Proofs.Ytajikfnpcobnpaa.PFnExactRegeneratePiece
-- HALVED
-- SQUEEZED
-- SQUEEZED2
-- SQUEEZED3
-- SQUEEZED4
-- SQUEEZED5
-- SQUEEZED6
