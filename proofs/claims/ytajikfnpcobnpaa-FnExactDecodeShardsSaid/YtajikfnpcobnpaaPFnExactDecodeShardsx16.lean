-- Laid by a program of this session.
import Derived.Test.YtajikfnpcobnpaaPFnExactDecodeShardsx0
import Derived.Test.YtajikfnpcobnpaaPFnExactDecodeShardsx1
import Derived.Test.YtajikfnpcobnpaaPFnExactDecodeShardsx2
import Derived.Test.YtajikfnpcobnpaaPFnExactDecodeShardsx10
import Derived.Test.YtajikfnpcobnpaaPFnExactDecodeShardsx14
import Derived.Test.YtajikfnpcobnpaaPFnExactDecodeShardsx15
namespace Go.Proofs.Ytajikfnpcobnpaa.PFnExactDecodeShards
open Go.RowKit Go.Proofs.YtajikfnpcobnpaaW.PrintWords Go.Proofs.YtajikfnpcobnpaaW.PrintLast Go.Proofs.YtajikfnpcobnpaaW.PrintMore
attribute [local go_sem] max2_int min2_int max_two min_two max_three min_three max_four min_four   -- for this text's walks alone
set_option linter.unusedVariables false
set_option maxHeartbeats 8000000
set_option maxRecDepth 100000
set_option linter.unusedSimpArgs false

mutual
def laws_FnExactDecodeShards.j0:Nat→List (S160)→Int→Int→List ByteArray→Bool→List (S84)→List ByteArray→Bool→Bool→Option (Bool)
 | 0,_,_,_,_,_,_,_,_,_=>none
 | k+1,x0,x1,x2,x8,x9,x10,x11,x12,x48=>if x48=true then (some false) else ((laws_toShardS.f k x0).bind fun t386=>((laws_eqShardS.f k x10 t386).bind fun t389=>(if t389=true then ((laws_markShardS.f k x10 1).bind fun bt390=>(if bt390.1 < 0 then (laws_FnExactDecodeShards.j1 k x0 x1 x2 x8 x9 x11 true) else ((laws_eqStringS.f k x11 x8).bind fun t392=>(if t392=true then (laws_FnExactDecodeShards.j1 k x0 x1 x2 x8 x9 x11 (x12 != x9)) else (laws_FnExactDecodeShards.j1 k x0 x1 x2 x8 x9 x11 true))))) else (some false))))
def laws_FnExactDecodeShards.j1:Nat→List (S160)→Int→Int→List ByteArray→Bool→List ByteArray→Bool→Option (Bool)
 | 0,_,_,_,_,_,_,_=>none
 | k+1,x0,x1,x2,x8,x9,x11,x69=>if x69=true then (some false) else ((laws_markStringS.f k x11 1).bind fun bt393=>((laws_heldStringS.f k bt393.2 1).bind fun t395=>(if t395 < 0 then (some false) else (if t395=bt393.1 then ((laws_toShardS.f k x0).bind fun t396=>((impl_DecodeShards.f k t396 x1 x2).bind fun bt399=>((laws_eqStringS.f k bt399.1 x8).bind fun t403=>(if t403=true then (laws_FnExactDecodeShards.j2 k bt393.2 bt393.1 (bt399.2 != x9)) else (laws_FnExactDecodeShards.j2 k bt393.2 bt393.1 true))))) else (some false)))))
def laws_FnExactDecodeShards.j2:Nat→List ByteArray→Int→Bool→Option (Bool)
 | 0,_,_,_=>none
 | k+1,x11,x14,x97=>if x97=true then (some false) else ((laws_heldStringS.f k x11 1).bind fun t404=>(if t404 < 0 then (some false) else (if t404=x14 then (some true) else (some false))))
end
def laws_FnExactDecodeShards.f (k:Nat) (l0:List (S160)) (a1:Int) (a2:Int):Option (Bool):=(laws_szShardS.f k l0 1048576).bind fun t370=>(if t370 < 0 then (some true) else ((laws_toShardS.f k l0).bind fun t371=>((spec_DecodeShards.f k t371 a1 a2).bind fun bt374=>((laws_toShardS.f k l0).bind fun t378=>((impl_DecodeShards.f k t378 a1 a2).bind fun bt381=>((laws_eqStringS.f k bt381.1 bt374.1).bind fun t385=>(if t385=true then (laws_FnExactDecodeShards.j0 k l0 a1 a2 bt374.1 bt374.2 t378 bt381.1 bt381.2 (bt381.2 != bt374.2)) else (laws_FnExactDecodeShards.j0 k l0 a1 a2 bt374.1 bt374.2 t378 bt381.1 bt381.2 true))))))))
theorem laws_FnExactDecodeShards.mono_l:∀ k,(∀ y0 y1 y2 y3 y4 y5 y6 y7 y8,LeO (laws_FnExactDecodeShards.j0 k y0 y1 y2 y3 y4 y5 y6 y7 y8) (laws_FnExactDecodeShards.j0 (k+1) y0 y1 y2 y3 y4 y5 y6 y7 y8))∧(∀ y0 y1 y2 y3 y4 y5 y6,LeO (laws_FnExactDecodeShards.j1 k y0 y1 y2 y3 y4 y5 y6) (laws_FnExactDecodeShards.j1 (k+1) y0 y1 y2 y3 y4 y5 y6))∧(∀ y0 y1 y2,LeO (laws_FnExactDecodeShards.j2 k y0 y1 y2) (laws_FnExactDecodeShards.j2 (k+1) y0 y1 y2))
 | 0=>⟨fun _ _ _ _ _ _ _ _ _ r h=>by simp [laws_FnExactDecodeShards.j0] at h,fun _ _ _ _ _ _ _ r h=>by simp [laws_FnExactDecodeShards.j1] at h,fun _ _ _ r h=>by simp [laws_FnExactDecodeShards.j2] at h⟩
 | k+1=>by
  obtain ⟨ih0,ih1,ih2⟩:=laws_FnExactDecodeShards.mono_l k
  refine ⟨?_,?_,?_⟩
  ·intro y0 y1 y2 y3 y4 y5 y6 y7 y8
   unfold laws_FnExactDecodeShards.j0
   repeat' first
   | (with_reducible exact ih0 _ _ _ _ _ _ _ _ _)
   | (with_reducible exact ih1 _ _ _ _ _ _ _)
   | (with_reducible exact ih2 _ _ _)
   | (with_reducible exact impl_DecodeShards.mono _ _ _ _)
   | (with_reducible exact laws_eqShardS.mono _ _ _)
   | (with_reducible exact laws_eqStringS.mono _ _ _)
   | (with_reducible exact laws_heldStringS.mono _ _ _)
   | (with_reducible exact laws_markShardS.mono _ _ _)
   | (with_reducible exact laws_markStringS.mono _ _ _)
   | (with_reducible exact laws_szShardS.mono _ _ _)
   | (with_reducible exact laws_toShardS.mono _ _)
   | (with_reducible exact spec_DecodeShards.mono _ _ _ _)
   |(with_reducible exact LeO.refl _)|(with_reducible exact LeO.none _)|(with_reducible refine LeO.ite ?_ ?_)|(with_reducible refine LeO.bind ?_ (fun _=>?_))|exact ih0 _ _ _ _ _ _ _ _ _|exact ih1 _ _ _ _ _ _ _|exact ih2 _ _ _|exact impl_DecodeShards.mono _ _ _ _|exact laws_eqShardS.mono _ _ _|exact laws_eqStringS.mono _ _ _|exact laws_heldStringS.mono _ _ _|exact laws_markShardS.mono _ _ _|exact laws_markStringS.mono _ _ _|exact laws_szShardS.mono _ _ _|exact laws_toShardS.mono _ _|exact spec_DecodeShards.mono _ _ _ _|exact LeO.none _|refine LeO.ite ?_ ?_|refine LeO.bind ?_ (fun _=>?_)
  ·intro y0 y1 y2 y3 y4 y5 y6
   unfold laws_FnExactDecodeShards.j1
   repeat' first
   | (with_reducible exact ih0 _ _ _ _ _ _ _ _ _)
   | (with_reducible exact ih1 _ _ _ _ _ _ _)
   | (with_reducible exact ih2 _ _ _)
   | (with_reducible exact impl_DecodeShards.mono _ _ _ _)
   | (with_reducible exact laws_eqShardS.mono _ _ _)
   | (with_reducible exact laws_eqStringS.mono _ _ _)
   | (with_reducible exact laws_heldStringS.mono _ _ _)
   | (with_reducible exact laws_markShardS.mono _ _ _)
   | (with_reducible exact laws_markStringS.mono _ _ _)
   | (with_reducible exact laws_szShardS.mono _ _ _)
   | (with_reducible exact laws_toShardS.mono _ _)
   | (with_reducible exact spec_DecodeShards.mono _ _ _ _)
   |(with_reducible exact LeO.refl _)|(with_reducible exact LeO.none _)|(with_reducible refine LeO.ite ?_ ?_)|(with_reducible refine LeO.bind ?_ (fun _=>?_))|exact ih0 _ _ _ _ _ _ _ _ _|exact ih1 _ _ _ _ _ _ _|exact ih2 _ _ _|exact impl_DecodeShards.mono _ _ _ _|exact laws_eqShardS.mono _ _ _|exact laws_eqStringS.mono _ _ _|exact laws_heldStringS.mono _ _ _|exact laws_markShardS.mono _ _ _|exact laws_markStringS.mono _ _ _|exact laws_szShardS.mono _ _ _|exact laws_toShardS.mono _ _|exact spec_DecodeShards.mono _ _ _ _|exact LeO.none _|refine LeO.ite ?_ ?_|refine LeO.bind ?_ (fun _=>?_)
  ·intro y0 y1 y2
   unfold laws_FnExactDecodeShards.j2
   repeat' first
   | (with_reducible exact ih0 _ _ _ _ _ _ _ _ _)
   | (with_reducible exact ih1 _ _ _ _ _ _ _)
   | (with_reducible exact ih2 _ _ _)
   | (with_reducible exact impl_DecodeShards.mono _ _ _ _)
   | (with_reducible exact laws_eqShardS.mono _ _ _)
   | (with_reducible exact laws_eqStringS.mono _ _ _)
   | (with_reducible exact laws_heldStringS.mono _ _ _)
   | (with_reducible exact laws_markShardS.mono _ _ _)
   | (with_reducible exact laws_markStringS.mono _ _ _)
   | (with_reducible exact laws_szShardS.mono _ _ _)
   | (with_reducible exact laws_toShardS.mono _ _)
   | (with_reducible exact spec_DecodeShards.mono _ _ _ _)
   |(with_reducible exact LeO.refl _)|(with_reducible exact LeO.none _)|(with_reducible refine LeO.ite ?_ ?_)|(with_reducible refine LeO.bind ?_ (fun _=>?_))|exact ih0 _ _ _ _ _ _ _ _ _|exact ih1 _ _ _ _ _ _ _|exact ih2 _ _ _|exact impl_DecodeShards.mono _ _ _ _|exact laws_eqShardS.mono _ _ _|exact laws_eqStringS.mono _ _ _|exact laws_heldStringS.mono _ _ _|exact laws_markShardS.mono _ _ _|exact laws_markStringS.mono _ _ _|exact laws_szShardS.mono _ _ _|exact laws_toShardS.mono _ _|exact spec_DecodeShards.mono _ _ _ _|exact LeO.none _|refine LeO.ite ?_ ?_|refine LeO.bind ?_ (fun _=>?_)
theorem laws_FnExactDecodeShards.mono:∀ a0 a1 a2 k,LeO (laws_FnExactDecodeShards.f k a0 a1 a2) (laws_FnExactDecodeShards.f (k+1) a0 a1 a2):=by
 intro a0 a1 a2 k
 obtain ⟨ih0,ih1,ih2⟩:=laws_FnExactDecodeShards.mono_l k
 unfold laws_FnExactDecodeShards.f
 repeat' first
   | (with_reducible exact ih0 _ _ _ _ _ _ _ _ _)
   | (with_reducible exact ih1 _ _ _ _ _ _ _)
   | (with_reducible exact ih2 _ _ _)
   | (with_reducible exact impl_DecodeShards.mono _ _ _ _)
   | (with_reducible exact laws_eqShardS.mono _ _ _)
   | (with_reducible exact laws_eqStringS.mono _ _ _)
   | (with_reducible exact laws_heldStringS.mono _ _ _)
   | (with_reducible exact laws_markShardS.mono _ _ _)
   | (with_reducible exact laws_markStringS.mono _ _ _)
   | (with_reducible exact laws_szShardS.mono _ _ _)
   | (with_reducible exact laws_toShardS.mono _ _)
   | (with_reducible exact spec_DecodeShards.mono _ _ _ _)
   |(with_reducible exact LeO.refl _)|(with_reducible exact LeO.none _)|(with_reducible refine LeO.ite ?_ ?_)|(with_reducible refine LeO.bind ?_ (fun _=>?_))|exact ih0 _ _ _ _ _ _ _ _ _|exact ih1 _ _ _ _ _ _ _|exact ih2 _ _ _|exact impl_DecodeShards.mono _ _ _ _|exact laws_eqShardS.mono _ _ _|exact laws_eqStringS.mono _ _ _|exact laws_heldStringS.mono _ _ _|exact laws_markShardS.mono _ _ _|exact laws_markStringS.mono _ _ _|exact laws_szShardS.mono _ _ _|exact laws_toShardS.mono _ _|exact spec_DecodeShards.mono _ _ _ _|exact LeO.none _|refine LeO.ite ?_ ?_|refine LeO.bind ?_ (fun _=>?_)
theorem laws_FnExactDecodeShards.calls (k:Nat) (A0:Option Addr) (c0:Nat) (l0:List (S160)) (a1:Int) (a2:Int) (r:Bool) (w:World) (hr0:Kd.C k160 w A0 l0.length l0) (hc0:l0.length≤c0) (h:laws_FnExactDecodeShards.f k l0 a1 a2=some r) :
  Calls Try.prog 11 #[.slice A0 l0.length c0, .int .i64 a1, .int .i64 a2] w fun e w'=>e = .returned (.bool r)∧Below w.heap.size w w':=by
 have HR0:=am hr0
 have HC0:=am hc0
 clear hr0 hc0
 have HB:=am (Below.refl w.heap.size w)
 have H:((laws_szShardS.f k l0 1048576).bind fun t370=>(if t370 < 0 then (some true) else ((laws_toShardS.f k l0).bind fun t371=>((spec_DecodeShards.f k t371 a1 a2).bind fun bt374=>((laws_toShardS.f k l0).bind fun t378=>((impl_DecodeShards.f k t378 a1 a2).bind fun bt381=>((laws_eqStringS.f k bt381.1 bt374.1).bind fun t385=>(if t385=true then (laws_FnExactDecodeShards.j0 k l0 a1 a2 bt374.1 bt374.2 t378 bt381.1 bt381.2 (bt381.2 != bt374.2)) else (laws_FnExactDecodeShards.j0 k l0 a1 a2 bt374.1 bt374.2 t378 bt381.1 bt381.2 true)))))))))=some r:=h
 clear h
 replace H:=Option.bind_eq_some_iff.mp H
 obtain ⟨t370,A40,H⟩:=H
 replace H:(if t370 < 0 then (some true) else ((laws_toShardS.f k l0).bind fun t371=>((spec_DecodeShards.f k t371 a1 a2).bind fun bt374=>((laws_toShardS.f k l0).bind fun t378=>((impl_DecodeShards.f k t378 a1 a2).bind fun bt381=>((laws_eqStringS.f k bt381.1 bt374.1).bind fun t385=>(if t385=true then (laws_FnExactDecodeShards.j0 k l0 a1 a2 bt374.1 bt374.2 t378 bt381.1 bt381.2 (bt381.2 != bt374.2)) else (laws_FnExactDecodeShards.j0 k l0 a1 a2 bt374.1 bt374.2 t378 bt381.1 bt381.2 true))))))))=some r:=H
 have A4:=am A40
 clear A40
 by_cases c5:t370 < 0
 ·rw [if_pos c5] at H
  have c5b0:decide (t370 < 0)=true:=decide_eq_true c5
  clear c5
  obtain rfl:=Option.some.inj H
  go_enter Try.func11,Try.ntmps11
  go_wp2_with (first|((with_reducible refine gate_callee (f:=53) rfl ?_);refine goesL_ (some 20) rfl rfl Try.func53 (by kernel_rfl) rfl #[.slice A0 l0.length c0, .int .i64 1048576] rfl (by (try simp only [q4,q5,q6]);first|done|rfl|(simp only [q7,q8];rfl)) ?_;(with_reducible refine (laws_szShardS.calls k _ _ l0 1048576 t370 _ ?side1 ?side2 A4.out).mono ?_);(case side1=>repeat (first|exact HR0.out|(with_reducible refine Kd.C_alloc ?_ _)|(with_reducible refine Kd.C_drewN ?_ _)|(with_reducible refine Kd.C_drew ?_)));(case side2=>exact HC0.out);rintro e w6 ⟨rfl,hb⟩;refine ⟨_,rfl,?_⟩;have n0_:=am (pu (by repeat (first|(with_reducible first|exact HB.out|apply pa|apply pb|apply pd)|exact HB.out)) hb);clear HB;have HB:=n0_;clear n0_;(try clear hb);(try clear hb2);(try clear hk);(try clear hi)))
  go_ret
  exact ⟨by first|rfl|(simp [errW_none,errW_some] <;> rfl)|(simp [*,errW_none,errW_some] <;> rfl),by repeat (first|(with_reducible first|exact HB.out|apply pa|apply pb|apply pd)|exact HB.out)⟩
 ·rw [if_neg c5] at H
  have c5b0:decide (t370 < 0)=false:=decide_eq_false c5
  clear c5
  replace H:=Option.bind_eq_some_iff.mp H
  obtain ⟨t371,A70,H⟩:=H
  replace H:((spec_DecodeShards.f k t371 a1 a2).bind fun bt374=>((laws_toShardS.f k l0).bind fun t378=>((impl_DecodeShards.f k t378 a1 a2).bind fun bt381=>((laws_eqStringS.f k bt381.1 bt374.1).bind fun t385=>(if t385=true then (laws_FnExactDecodeShards.j0 k l0 a1 a2 bt374.1 bt374.2 t378 bt381.1 bt381.2 (bt381.2 != bt374.2)) else (laws_FnExactDecodeShards.j0 k l0 a1 a2 bt374.1 bt374.2 t378 bt381.1 bt381.2 true))))))=some r:=H
  have A7:=am A70
  clear A70
  replace H:=Option.bind_eq_some_iff.mp H
  obtain ⟨⟨t374,t375⟩,A80,H⟩:=H
  replace H:((laws_toShardS.f k l0).bind fun t378=>((impl_DecodeShards.f k t378 a1 a2).bind fun bt381=>((laws_eqStringS.f k bt381.1 t374).bind fun t385=>(if t385=true then (laws_FnExactDecodeShards.j0 k l0 a1 a2 t374 t375 t378 bt381.1 bt381.2 (bt381.2 != t375)) else (laws_FnExactDecodeShards.j0 k l0 a1 a2 t374 t375 t378 bt381.1 bt381.2 true)))))=some r:=H
  have A8:=am A80
  clear A80
  replace H:=Option.bind_eq_some_iff.mp H
  obtain ⟨t378,A90,H⟩:=H
  replace H:((impl_DecodeShards.f k t378 a1 a2).bind fun bt381=>((laws_eqStringS.f k bt381.1 t374).bind fun t385=>(if t385=true then (laws_FnExactDecodeShards.j0 k l0 a1 a2 t374 t375 t378 bt381.1 bt381.2 (bt381.2 != t375)) else (laws_FnExactDecodeShards.j0 k l0 a1 a2 t374 t375 t378 bt381.1 bt381.2 true))))=some r:=H
  have A9:=am A90
  clear A90
  replace H:=Option.bind_eq_some_iff.mp H
  obtain ⟨⟨t381,t382⟩,A100,H⟩:=H
  replace H:((laws_eqStringS.f k t381 t374).bind fun t385=>(if t385=true then (laws_FnExactDecodeShards.j0 k l0 a1 a2 t374 t375 t378 t381 t382 (t382 != t375)) else (laws_FnExactDecodeShards.j0 k l0 a1 a2 t374 t375 t378 t381 t382 true)))=some r:=H
  have A10:=am A100
  clear A100
  have HC11:=am H
  clear H
  go_enter Try.func11,Try.ntmps11
  go_upto_region 8 with (first|((with_reducible refine gate_callee (f:=53) rfl ?_);refine goesL_ (some 20) rfl rfl Try.func53 (by kernel_rfl) rfl #[.slice A0 l0.length c0, .int .i64 1048576] rfl (by (try simp only [q4,q5,q6]);first|done|rfl|(simp only [q7,q8];rfl)) ?_;(with_reducible refine (laws_szShardS.calls k _ _ l0 1048576 t370 _ ?side1 ?side2 A4.out).mono ?_);(case side1=>repeat (first|exact HR0.out|(with_reducible refine Kd.C_alloc ?_ _)|(with_reducible refine Kd.C_drewN ?_ _)|(with_reducible refine Kd.C_drew ?_)));(case side2=>exact HC0.out);rintro e w12 ⟨rfl,hb⟩;refine ⟨_,rfl,?_⟩;have n0_:=am (pu (by repeat (first|(with_reducible first|exact HB.out|apply pa|apply pb|apply pd)|exact HB.out)) hb);clear HB;have HB:=n0_;clear n0_;(try clear hb);(try clear hb2);(try clear hk);(try clear hi))|((with_reducible refine gate_callee (f:=55) rfl ?_);refine goesL_ (some 25) rfl rfl Try.func55 (by kernel_rfl) rfl #[.slice A0 l0.length c0] rfl (by (try simp only [q4,q5,q6]);first|done|rfl|(simp only [q7,q8];rfl)) ?_;(with_reducible refine (laws_toShardS.calls k _ _ l0 t371 _ ?side1 ?side2 A7.out).mono ?_);(case side1=>repeat (first|exact (Kd.C_below HR0.out HB.out)|(with_reducible refine Kd.C_alloc ?_ _)|(with_reducible refine Kd.C_drewN ?_ _)|(with_reducible refine Kd.C_drew ?_)));(case side2=>exact HC0.out);rintro e w13 ⟨v372,rfl,ho0,hb⟩;refine ⟨_,rfl,?_⟩;have n0_:=am (Kd.R_lower ho0 (pz (by repeat (first|(with_reducible first|exact HB.out|apply pa|apply pb|apply pd)|exact HB.out))));have n1_:=am (pu (by repeat (first|(with_reducible first|exact HB.out|apply pa|apply pb|apply pd)|exact HB.out)) hb);clear HB;have HO373:=n0_;have HB:=n1_;clear n0_ n1_;(try clear hb);(try clear hb2);(try clear hk);(try clear hi);(try clear ho0);obtain ⟨Ao14,co14,eo14⟩:=Kd.R_slice HO373.out;subst eo14)|((with_reducible refine gate_callee (f:=61) rfl ?_);refine goesL_ (some 28) rfl rfl Try.func61 (by kernel_rfl) rfl #[.slice Ao14 t371.length co14, .int .i64 a1, .int .i64 a2] rfl (by (try simp only [q4,q5,q6]);first|done|rfl|(simp only [q7,q8];rfl)) ?_;(with_reducible refine (spec_DecodeShards.calls k _ _ t371 a1 a2 t374 t375 _ ?side1 ?side2 A8.out).mono ?_);(case side1=>repeat (first|exact (Kd.R_reads' HO373.out).2.2|(with_reducible refine Kd.C_alloc ?_ _)|(with_reducible refine Kd.C_drewN ?_ _)|(with_reducible refine Kd.C_drew ?_)));(case side2=>exact (Kd.R_reads' HO373.out).2.1);rintro e w15 ⟨v376,rfl,ho0,hb⟩;refine ⟨_,rfl,?_⟩;have n0_:=am (Kd.R_below (by (with_reducible repeat (first|apply Kd.R_alloc|apply Kd.R_drewN|apply Kd.R_drew));exact HO373.out) hb);have n1_:=am (Kd.R_lower ho0 (pz (by repeat (first|(with_reducible first|exact HB.out|apply pa|apply pb|apply pd)|exact HB.out))));have n2_:=am (pu (by repeat (first|(with_reducible first|exact HB.out|apply pa|apply pb|apply pd)|exact HB.out)) hb);clear HO373;clear HB;have HO373:=n0_;have HO377:=n1_;have HB:=n2_;clear n0_ n1_ n2_;(try clear hb);(try clear hb2);(try clear hk);(try clear hi);(try clear ho0))|((with_reducible refine gate_callee (f:=55) rfl ?_);refine goesL_ (some 32) rfl rfl Try.func55 (by kernel_rfl) rfl #[.slice A0 l0.length c0] rfl (by (try simp only [q4,q5,q6]);first|done|rfl|(simp only [q7,q8];rfl)) ?_;(with_reducible refine (laws_toShardS.calls k _ _ l0 t378 _ ?side1 ?side2 A9.out).mono ?_);(case side1=>repeat (first|exact (Kd.C_below HR0.out HB.out)|(with_reducible refine Kd.C_alloc ?_ _)|(with_reducible refine Kd.C_drewN ?_ _)|(with_reducible refine Kd.C_drew ?_)));(case side2=>exact HC0.out);rintro e w16 ⟨v379,rfl,ho0,hb⟩;refine ⟨_,rfl,?_⟩;have n0_:=am (Kd.R_elder' (by (with_reducible repeat (first|apply Kd.R_alloc|apply Kd.R_drewN|apply Kd.R_drew));exact HO373.out) (Kd.R_base ho0) hb);have n1_:=am (Kd.R_below (by (with_reducible repeat (first|apply Kd.R_alloc|apply Kd.R_drewN|apply Kd.R_drew));exact HO377.out) hb);have n2_:=am (Kd.R_lower (Kd.R_new' ho0 (Kd.R_lt (by (with_reducible repeat (first|apply Kd.R_alloc|apply Kd.R_drewN|apply Kd.R_drew));exact HO373.out))) (pz (by repeat (first|(with_reducible first|exact HB.out|apply pa|apply pb|apply pd)|exact HB.out))));have n3_:=am (pu (by repeat (first|(with_reducible first|exact HB.out|apply pa|apply pb|apply pd)|exact HB.out)) hb);clear HO373;clear HO377;clear HB;have HO373:=n0_;have HO377:=n1_;have HO380:=n2_;have HB:=n3_;clear n0_ n1_ n2_ n3_;(try clear hb);(try clear hb2);(try clear hk);(try clear hi);(try clear ho0);obtain ⟨Ao17,co17,eo17⟩:=Kd.R_slice HO380.out;subst eo17)|((with_reducible refine gate_callee (f:=62) rfl ?_);refine goesL_ (some 37) rfl rfl Try.func62 (by kernel_rfl) rfl #[.slice Ao17 t378.length co17, .int .i64 a1, .int .i64 a2] rfl (by (try simp only [q4,q5,q6]);first|done|rfl|(simp only [q7,q8];rfl)) ?_;(with_reducible refine (impl_DecodeShards.calls k _ _ t378 a1 a2 t381 t382 _ ?side1 ?side2 A10.out).mono ?_);(case side1=>repeat (first|exact (Kd.R_reads' HO380.out).2.2|(with_reducible refine Kd.C_alloc ?_ _)|(with_reducible refine Kd.C_drewN ?_ _)|(with_reducible refine Kd.C_drew ?_)));(case side2=>exact (Kd.R_reads' HO380.out).2.1);rintro e w18 ⟨v383,rfl,ho0,hb⟩;refine ⟨_,rfl,?_⟩;have n0_:=am (Kd.R_below (by (with_reducible repeat (first|apply Kd.R_alloc|apply Kd.R_drewN|apply Kd.R_drew));exact HO373.out) hb);have n1_:=am (Kd.R_elder' (by (with_reducible repeat (first|apply Kd.R_alloc|apply Kd.R_drewN|apply Kd.R_drew));exact HO377.out) (Kd.R_base ho0) hb);have n2_:=am (Kd.R_below (by (with_reducible repeat (first|apply Kd.R_alloc|apply Kd.R_drewN|apply Kd.R_drew));exact HO380.out) hb);have n3_:=am (Kd.R_lower (Kd.R_new' ho0 (Kd.R_lt (by (with_reducible repeat (first|apply Kd.R_alloc|apply Kd.R_drewN|apply Kd.R_drew));exact HO377.out))) (pz (by repeat (first|(with_reducible first|exact HB.out|apply pa|apply pb|apply pd)|exact HB.out))));have n4_:=am (pu (by repeat (first|(with_reducible first|exact HB.out|apply pa|apply pb|apply pd)|exact HB.out)) hb);clear HO373;clear HO377;clear HO380;clear HB;have HO373:=n0_;have HO377:=n1_;have HO380:=n2_;have HO384:=n3_;have HB:=n4_;clear n0_ n1_ n2_ n3_ n4_;(try clear hb);(try clear hb2);(try clear hk);(try clear hi);(try clear ho0)))
  (try simp only [Act.put,q1,q2,q3])
  go_cut [48] (fun v48 wc=>∃ (kq:Nat) (x48_10:Bool),v48 = .bool x48_10∧Aside0 (laws_FnExactDecodeShards.j0 kq l0 a1 a2 t374 t375 t378 t381 t382 x48_10=some r)∧Aside0 (kq≤k)∧Aside0 (Kd.R Kd.string 9 wc w.heap.size (fun k_=>some k_ ≠ (v383:Value).ownBlock) v376 t374)∧Aside0 (Kd.R k84 84 wc w.heap.size (fun _=>True) (.slice Ao17 t378.length co17) t378)∧Aside0 (Kd.R Kd.string 9 wc w.heap.size (fun k_=>some k_ ≠ (v376:Value).ownBlock) v383 t381)∧Aside0 (Below w.heap.size w wc))
  case first =>
   have H:=HC11.out
   clear HC11
   replace H:=Option.bind_eq_some_iff.mp H
   obtain ⟨t385,A190,H⟩:=H
   replace H:(if t385=true then (laws_FnExactDecodeShards.j0 k l0 a1 a2 t374 t375 t378 t381 t382 (t382 != t375)) else (laws_FnExactDecodeShards.j0 k l0 a1 a2 t374 t375 t378 t381 t382 true))=some r:=H
   have A19:=am A190
   clear A190
   by_cases c20:t385=true
   ·subst c20
    have H1:(laws_FnExactDecodeShards.j0 k l0 a1 a2 t374 t375 t378 t381 t382 (t382 != t375))=some r:=by rw [if_pos rfl] at H;exact H
    clear H
    have H:=H1
    clear H1
    have H':=am H
    clear H
    obtain ⟨Ao21,co21,eo21⟩:=Kd.R_slice HO384.out
    subst eo21
    obtain ⟨Ao22,co22,eo22⟩:=Kd.R_slice HO377.out
    subst eo22
    go_wp2_with (first|((with_reducible refine gate_callee (f:=63) rfl ?_);refine goesL_ (some 42) rfl rfl Try.func63 (by kernel_rfl) rfl #[.slice Ao21 t381.length co21, .slice Ao22 t374.length co22] rfl (by (try simp only [q4,q5,q6]);first|done|rfl|(simp only [q7,q8];rfl)) ?_;(with_reducible refine (laws_eqStringS.calls k _ _ t381 _ _ t374 true _ ?side1 ?side2 ?side3 ?side4 A19.out).mono ?_);(case side1=>repeat (first|exact (Kd.R_reads' HO384.out).2.2|(with_reducible refine Kd.C_alloc ?_ _)|(with_reducible refine Kd.C_drewN ?_ _)|(with_reducible refine Kd.C_drew ?_)));(case side2=>exact (Kd.R_reads' HO384.out).2.1);(case side3=>repeat (first|exact (Kd.R_reads' HO377.out).2.2|(with_reducible refine Kd.C_alloc ?_ _)|(with_reducible refine Kd.C_drewN ?_ _)|(with_reducible refine Kd.C_drew ?_)));(case side4=>exact (Kd.R_reads' HO377.out).2.1);rintro e w' ⟨rfl,⟨nd,rfl⟩⟩;refine ⟨_,rfl,?_⟩))
    go_meet
    case rel=>exact ⟨_,((t382 != t375)),(by first|rfl|(simp;done)|(simp [*];done)),H',⟨by first|omega|exact Nat.le_refl _⟩,⟨by (with_reducible repeat (first|apply Kd.R_alloc|apply Kd.R_drewN|apply Kd.R_drew));exact Kd.R_mono HO377.out (fun _ hk=>hk.2)⟩,⟨by (with_reducible repeat (first|apply Kd.R_alloc|apply Kd.R_drewN|apply Kd.R_drew));exact Kd.R_mono HO380.out (fun _ hk=>trivial)⟩,⟨by (with_reducible repeat (first|apply Kd.R_alloc|apply Kd.R_drewN|apply Kd.R_drew));exact Kd.R_mono HO384.out (fun _ hk=>hk.2)⟩,⟨by repeat (first|(with_reducible first|exact HB.out|apply pa|apply pb|apply pd)|exact HB.out)⟩⟩
   ·replace c20:=Bool.eq_false_iff.mpr c20
    subst c20
    have H1:(laws_FnExactDecodeShards.j0 k l0 a1 a2 t374 t375 t378 t381 t382 true)=some r:=by rw [if_neg (show ¬ (false=true) by decide)] at H;exact H
    clear H
    have H:=H1
    clear H1
    have H':=am H
    clear H
    obtain ⟨Ao23,co23,eo23⟩:=Kd.R_slice HO384.out
    subst eo23
    obtain ⟨Ao24,co24,eo24⟩:=Kd.R_slice HO377.out
    subst eo24
    go_wp2_with (first|((with_reducible refine gate_callee (f:=63) rfl ?_);refine goesL_ (some 42) rfl rfl Try.func63 (by kernel_rfl) rfl #[.slice Ao23 t381.length co23, .slice Ao24 t374.length co24] rfl (by (try simp only [q4,q5,q6]);first|done|rfl|(simp only [q7,q8];rfl)) ?_;(with_reducible refine (laws_eqStringS.calls k _ _ t381 _ _ t374 false _ ?side1 ?side2 ?side3 ?side4 A19.out).mono ?_);(case side1=>repeat (first|exact (Kd.R_reads' HO384.out).2.2|(with_reducible refine Kd.C_alloc ?_ _)|(with_reducible refine Kd.C_drewN ?_ _)|(with_reducible refine Kd.C_drew ?_)));(case side2=>exact (Kd.R_reads' HO384.out).2.1);(case side3=>repeat (first|exact (Kd.R_reads' HO377.out).2.2|(with_reducible refine Kd.C_alloc ?_ _)|(with_reducible refine Kd.C_drewN ?_ _)|(with_reducible refine Kd.C_drew ?_)));(case side4=>exact (Kd.R_reads' HO377.out).2.1);rintro e w' ⟨rfl,⟨nd,rfl⟩⟩;refine ⟨_,rfl,?_⟩))
    go_meet
    case rel=>exact ⟨_,(true),(by first|rfl|(simp;done)|(simp [*];done)),H',⟨by first|omega|exact Nat.le_refl _⟩,⟨by (with_reducible repeat (first|apply Kd.R_alloc|apply Kd.R_drewN|apply Kd.R_drew));exact Kd.R_mono HO377.out (fun _ hk=>hk.2)⟩,⟨by (with_reducible repeat (first|apply Kd.R_alloc|apply Kd.R_drewN|apply Kd.R_drew));exact Kd.R_mono HO380.out (fun _ hk=>trivial)⟩,⟨by (with_reducible repeat (first|apply Kd.R_alloc|apply Kd.R_drewN|apply Kd.R_drew));exact Kd.R_mono HO384.out (fun _ hk=>hk.2)⟩,⟨by repeat (first|(with_reducible first|exact HB.out|apply pa|apply pb|apply pd)|exact HB.out)⟩⟩
  case rest =>
   clear HC11
   try clear c1
   try clear c2
   try clear p2
   try clear c5
   try clear c5b0
   try clear c6
   try clear c11
   try clear c20
   obtain ⟨kq,x48_10,rfl,HA,HJ10,HO_8,HO_10,HO_11,HB⟩:=hcut
   cases kq with
   | zero=>exact absurd HA.out (by simp [laws_FnExactDecodeShards.j0])
   | succ kj10 =>
    have H:=HA.out
    clear HA
    simp only [laws_FnExactDecodeShards.j0] at H
    by_cases c25:x48_10=true
    ·subst c25
     have H1:(some false)=some r:=by rw [if_pos rfl] at H;exact H
     clear H
     have H:=H1
     clear H1
     obtain rfl:=Option.some.inj H
     go_wp2
     go_ret
     exact ⟨by first|rfl|(simp [errW_none,errW_some] <;> rfl)|(simp [*,errW_none,errW_some] <;> rfl),by repeat (first|(with_reducible first|exact HB.out|apply pa|apply pb|apply pd)|exact HB.out)⟩
    ·replace c25:=Bool.eq_false_iff.mpr c25
     subst c25
     have H1:((laws_toShardS.f kj10 l0).bind fun t386=>((laws_eqShardS.f kj10 t378 t386).bind fun t389=>(if t389=true then ((laws_markShardS.f kj10 t378 1).bind fun bt390=>(if bt390.1 < 0 then (laws_FnExactDecodeShards.j1 kj10 l0 a1 a2 t374 t375 t381 true) else ((laws_eqStringS.f kj10 t381 t374).bind fun t392=>(if t392=true then (laws_FnExactDecodeShards.j1 kj10 l0 a1 a2 t374 t375 t381 (t382 != t375)) else (laws_FnExactDecodeShards.j1 kj10 l0 a1 a2 t374 t375 t381 true))))) else (some false))))=some r:=by rw [if_neg (show ¬ (false=true) by decide)] at H;exact H
     clear H
     have H:=H1
     clear H1
     replace H:=Option.bind_eq_some_iff.mp H
     obtain ⟨t386,A260,H⟩:=H
     replace H:((laws_eqShardS.f kj10 t378 t386).bind fun t389=>(if t389=true then ((laws_markShardS.f kj10 t378 1).bind fun bt390=>(if bt390.1 < 0 then (laws_FnExactDecodeShards.j1 kj10 l0 a1 a2 t374 t375 t381 true) else ((laws_eqStringS.f kj10 t381 t374).bind fun t392=>(if t392=true then (laws_FnExactDecodeShards.j1 kj10 l0 a1 a2 t374 t375 t381 (t382 != t375)) else (laws_FnExactDecodeShards.j1 kj10 l0 a1 a2 t374 t375 t381 true))))) else (some false)))=some r:=H
     have A26:=am A260
     clear A260
     replace H:=Option.bind_eq_some_iff.mp H
     obtain ⟨t389,A270,H⟩:=H
     replace H:(if t389=true then ((laws_markShardS.f kj10 t378 1).bind fun bt390=>(if bt390.1 < 0 then (laws_FnExactDecodeShards.j1 kj10 l0 a1 a2 t374 t375 t381 true) else ((laws_eqStringS.f kj10 t381 t374).bind fun t392=>(if t392=true then (laws_FnExactDecodeShards.j1 kj10 l0 a1 a2 t374 t375 t381 (t382 != t375)) else (laws_FnExactDecodeShards.j1 kj10 l0 a1 a2 t374 t375 t381 true))))) else (some false))=some r:=H
     have A27:=am A270
     clear A270
     by_cases c28:t389=true
     ·subst c28
      have H1:((laws_markShardS.f kj10 t378 1).bind fun bt390=>(if bt390.1 < 0 then (laws_FnExactDecodeShards.j1 kj10 l0 a1 a2 t374 t375 t381 true) else ((laws_eqStringS.f kj10 t381 t374).bind fun t392=>(if t392=true then (laws_FnExactDecodeShards.j1 kj10 l0 a1 a2 t374 t375 t381 (t382 != t375)) else (laws_FnExactDecodeShards.j1 kj10 l0 a1 a2 t374 t375 t381 true)))))=some r:=by rw [if_pos rfl] at H;exact H
      clear H
      have H:=H1
      clear H1
      replace H:=Option.bind_eq_some_iff.mp H
      obtain ⟨⟨t390,t391⟩,A290,H⟩:=H
      replace H:(if t390 < 0 then (laws_FnExactDecodeShards.j1 kj10 l0 a1 a2 t374 t375 t381 true) else ((laws_eqStringS.f kj10 t381 t374).bind fun t392=>(if t392=true then (laws_FnExactDecodeShards.j1 kj10 l0 a1 a2 t374 t375 t381 (t382 != t375)) else (laws_FnExactDecodeShards.j1 kj10 l0 a1 a2 t374 t375 t381 true))))=some r:=H
      have A29:=am A290
      clear A290
      have HC30:=am H
      clear H
      go_upto_region 14 with (first|((with_reducible refine gate_callee (f:=55) rfl ?_);refine goesL_ (some 51) rfl rfl Try.func55 (by kernel_rfl) rfl #[.slice A0 l0.length c0] rfl (by (try simp only [q4,q5,q6]);first|done|rfl|(simp only [q7,q8];rfl)) ?_;(with_reducible refine (laws_toShardS.calls kj10 _ _ l0 t386 _ ?side1 ?side2 A26.out).mono ?_);(case side1=>repeat (first|exact (Kd.C_below HR0.out HB.out)|(with_reducible refine Kd.C_alloc ?_ _)|(with_reducible refine Kd.C_drewN ?_ _)|(with_reducible refine Kd.C_drew ?_)));(case side2=>exact HC0.out);rintro e w31 ⟨v387,rfl,ho0,hb⟩;refine ⟨_,rfl,?_⟩;have n0_:=am (Kd.R_below (by (with_reducible repeat (first|apply Kd.R_alloc|apply Kd.R_drewN|apply Kd.R_drew));exact HO_8.out) hb);have n1_:=am (Kd.R_elder' (by (with_reducible repeat (first|apply Kd.R_alloc|apply Kd.R_drewN|apply Kd.R_drew));exact HO_10.out) (Kd.R_base ho0) hb);have n2_:=am (Kd.R_below (by (with_reducible repeat (first|apply Kd.R_alloc|apply Kd.R_drewN|apply Kd.R_drew));exact HO_11.out) hb);have n3_:=am (Kd.R_lower (Kd.R_new' ho0 (Kd.R_lt (by (with_reducible repeat (first|apply Kd.R_alloc|apply Kd.R_drewN|apply Kd.R_drew));exact HO_10.out))) (pz (by repeat (first|(with_reducible first|exact HB.out|apply pa|apply pb|apply pd)|exact HB.out))));have n4_:=am (pu (by repeat (first|(with_reducible first|exact HB.out|apply pa|apply pb|apply pd)|exact HB.out)) hb);clear HO_8;clear HO_10;clear HO_11;clear HB;have HO_8:=n0_;have HO_10:=n1_;have HO_11:=n2_;have HO388:=n3_;have HB:=n4_;clear n0_ n1_ n2_ n3_ n4_;(try clear hb);(try clear hb2);(try clear hk);(try clear hi);(try clear ho0);obtain ⟨Ao32,co32,eo32⟩:=Kd.R_slice HO388.out;subst eo32)|((with_reducible refine gate_callee (f:=58) rfl ?_);refine goesL_ (some 52) rfl rfl Try.func58 (by kernel_rfl) rfl #[.slice Ao17 t378.length co17, .slice Ao32 t386.length co32] rfl (by (try simp only [q4,q5,q6]);first|done|rfl|(simp only [q7,q8];rfl)) ?_;(with_reducible refine (laws_eqShardS.calls kj10 _ _ t378 _ _ t386 true _ ?side1 ?side2 ?side3 ?side4 A27.out).mono ?_);(case side1=>repeat (first|exact (Kd.R_reads' HO_10.out).2.2|(with_reducible refine Kd.C_alloc ?_ _)|(with_reducible refine Kd.C_drewN ?_ _)|(with_reducible refine Kd.C_drew ?_)));(case side2=>exact (Kd.R_reads' HO_10.out).2.1);(case side3=>repeat (first|exact (Kd.R_reads' HO388.out).2.2|(with_reducible refine Kd.C_alloc ?_ _)|(with_reducible refine Kd.C_drewN ?_ _)|(with_reducible refine Kd.C_drew ?_)));(case side4=>exact (Kd.R_reads' HO388.out).2.1);rintro e w33 ⟨rfl,hb⟩;refine ⟨_,rfl,?_⟩;have n0_:=am (Kd.R_below (by (with_reducible repeat (first|apply Kd.R_alloc|apply Kd.R_drewN|apply Kd.R_drew));exact HO_8.out) hb);have n1_:=am (Kd.R_below (by (with_reducible repeat (first|apply Kd.R_alloc|apply Kd.R_drewN|apply Kd.R_drew));exact HO_10.out) hb);have n2_:=am (Kd.R_below (by (with_reducible repeat (first|apply Kd.R_alloc|apply Kd.R_drewN|apply Kd.R_drew));exact HO_11.out) hb);have n3_:=am (Kd.R_below (by (with_reducible repeat (first|apply Kd.R_alloc|apply Kd.R_drewN|apply Kd.R_drew));exact HO388.out) hb);have n4_:=am (pu (by repeat (first|(with_reducible first|exact HB.out|apply pa|apply pb|apply pd)|exact HB.out)) hb);clear HO_8;clear HO_10;clear HO_11;clear HO388;clear HB;have HO_8:=n0_;have HO_10:=n1_;have HO_11:=n2_;have HO388:=n3_;have HB:=n4_;clear n0_ n1_ n2_ n3_ n4_;(try clear hb);(try clear hb2);(try clear hk);(try clear hi))|((with_reducible refine gate_callee (f:=64) rfl ?_);refine goesL_ (some 56) rfl rfl Try.func64 (by kernel_rfl) rfl #[.slice Ao17 t378.length co17, .int .i64 1] rfl (by (try simp only [q4,q5,q6]);first|done|rfl|(simp only [q7,q8];rfl)) ?_;(with_reducible refine (laws_markShardS.calls kj10 (fun k_=>some k_=(.slice Ao17 t378.length co17:Value).ownBlock) (.slice Ao17 t378.length co17) t378 1 t390 t391 w _ ?side1 ?side2 A29.out).mono ?_);(case side1=>repeat (first|(with_reducible first|exact HB.out|apply pa|apply pb|apply pd)|exact HB.out));(case side2=>exact Kd.R_tight rfl HO_10.out);rintro e w34 ⟨rfl,hy0,hb,hkp⟩;refine ⟨_,rfl,?_⟩;have n0_:=am (Kd.R_mono (ok':=fun k_=>some k_ ≠ (v383:Value).ownBlock) (Kd.R_keptB ((Kd.R_apart' HO_8.out (Kd.R_typed HO_10.out) (by decide))) hkp (fun k_ hk_ hs_=>(hk_.2) hs_)) (fun k_ hk_=>hk_.1.1));have n1_:=am (Kd.R_reok rfl hy0 (fun k_ e_=>HO_10.out.1 k_ e_));have n2_:=am (Kd.R_mono (ok':=fun k_=>some k_ ≠ (v376:Value).ownBlock) (Kd.R_keptB ((Kd.R_apart' HO_11.out (Kd.R_typed HO_10.out) (by decide))) hkp (fun k_ hk_ hs_=>(hk_.2) hs_)) (fun k_ hk_=>hk_.1.1));have n3_:=am (Kd.R_mono (ok':=fun k_=>some k_ ≠ (.slice Ao17 t378.length co17:Value).ownBlock) (Kd.R_keptB (HO388.out) hkp (fun k_ hk_ hs_=>(hk_.2) hs_)) (fun k_ hk_=>hk_.1.2));have n4_:=am (hb);clear HO_8;clear HO_10;clear HO_11;clear HO388;clear HB;have HO_8:=n0_;have HO_10:=n1_;have HO_11:=n2_;have HO388:=n3_;have HB:=n4_;clear n0_ n1_ n2_ n3_ n4_;(try clear hb);(try clear hkp);(try clear hy0)))
      (try simp only [Act.put,q1,q2,q3])
      go_cut [69] (fun v69 wc=>∃ (kq:Nat) (x69_29:Bool),v69 = .bool x69_29∧Aside0 (laws_FnExactDecodeShards.j1 kq l0 a1 a2 t374 t375 t381 x69_29=some r)∧Aside0 (kq≤kj10)∧Aside0 (Kd.R Kd.string 9 wc w.heap.size (fun k_=>some k_ ≠ (v383:Value).ownBlock) v376 t374)∧Aside0 (Kd.R Kd.string 9 wc w.heap.size (fun k_=>some k_ ≠ (v376:Value).ownBlock) v383 t381)∧Aside0 (Below w.heap.size w wc))
      case first =>
       have H:=HC30.out
       clear HC30
       by_cases c35:t390 < 0
       ·rw [if_pos c35] at H
        have c35b0:decide (t390 < 0)=true:=decide_eq_true c35
        clear c35
        (first|rw [c35b0]|(simp only [i64_w,i32_w];rw [c35b0])|skip)
        have H':=am H
        clear H
        go_wp2
        go_meet
        case rel=>exact ⟨_,(true),(by first|rfl|(simp;done)|(simp [*];done)),H',⟨by have:=HJ10.out;first|omega|exact Nat.le_refl _⟩,⟨by (with_reducible repeat (first|apply Kd.R_alloc|apply Kd.R_drewN|apply Kd.R_drew));exact HO_8.out⟩,⟨by (with_reducible repeat (first|apply Kd.R_alloc|apply Kd.R_drewN|apply Kd.R_drew));exact HO_11.out⟩,⟨by repeat (first|(with_reducible first|exact HB.out|apply pa|apply pb|apply pd)|exact HB.out)⟩⟩
       ·rw [if_neg c35] at H
        have c35b0:decide (t390 < 0)=false:=decide_eq_false c35
        clear c35
        (first|rw [c35b0]|(simp only [i64_w,i32_w];rw [c35b0])|skip)
        replace H:=Option.bind_eq_some_iff.mp H
        obtain ⟨t392,A360,H⟩:=H
        replace H:(if t392=true then (laws_FnExactDecodeShards.j1 kj10 l0 a1 a2 t374 t375 t381 (t382 != t375)) else (laws_FnExactDecodeShards.j1 kj10 l0 a1 a2 t374 t375 t381 true))=some r:=H
        have A36:=am A360
        clear A360
        by_cases c37:t392=true
        ·subst c37
         have H1:(laws_FnExactDecodeShards.j1 kj10 l0 a1 a2 t374 t375 t381 (t382 != t375))=some r:=by rw [if_pos rfl] at H;exact H
         clear H
         have H:=H1
         clear H1
         have H':=am H
         clear H
         obtain ⟨Ao38,co38,eo38⟩:=Kd.R_slice HO_11.out
         subst eo38
         obtain ⟨Ao39,co39,eo39⟩:=Kd.R_slice HO_8.out
         subst eo39
         go_wp2_with (first|(go_at_call 63;(with_reducible refine (laws_eqStringS.calls kj10 _ _ t381 _ _ t374 true _ ?side1 ?side2 ?side3 ?side4 A36.out).mono ?_);(case side1=>repeat (first|exact (Kd.R_reads' HO_11.out).2.2|(with_reducible refine Kd.C_alloc ?_ _)|(with_reducible refine Kd.C_drewN ?_ _)|(with_reducible refine Kd.C_drew ?_)));(case side2=>exact (Kd.R_reads' HO_11.out).2.1);(case side3=>repeat (first|exact (Kd.R_reads' HO_8.out).2.2|(with_reducible refine Kd.C_alloc ?_ _)|(with_reducible refine Kd.C_drewN ?_ _)|(with_reducible refine Kd.C_drew ?_)));(case side4=>exact (Kd.R_reads' HO_8.out).2.1);rintro e w' ⟨rfl,⟨nd,rfl⟩⟩))
         go_meet
         case rel=>exact ⟨_,((t382 != t375)),(by first|rfl|(simp;done)|(simp [*];done)),H',⟨by have:=HJ10.out;first|omega|exact Nat.le_refl _⟩,⟨by (with_reducible repeat (first|apply Kd.R_alloc|apply Kd.R_drewN|apply Kd.R_drew));exact HO_8.out⟩,⟨by (with_reducible repeat (first|apply Kd.R_alloc|apply Kd.R_drewN|apply Kd.R_drew));exact HO_11.out⟩,⟨by repeat (first|(with_reducible first|exact HB.out|apply pa|apply pb|apply pd)|exact HB.out)⟩⟩
        ·replace c37:=Bool.eq_false_iff.mpr c37
         subst c37
         have H1:(laws_FnExactDecodeShards.j1 kj10 l0 a1 a2 t374 t375 t381 true)=some r:=by rw [if_neg (show ¬ (false=true) by decide)] at H;exact H
         clear H
         have H:=H1
         clear H1
         have H':=am H
         clear H
         obtain ⟨Ao40,co40,eo40⟩:=Kd.R_slice HO_11.out
         subst eo40
         obtain ⟨Ao41,co41,eo41⟩:=Kd.R_slice HO_8.out
         subst eo41
         go_wp2_with (first|(go_at_call 63;(with_reducible refine (laws_eqStringS.calls kj10 _ _ t381 _ _ t374 false _ ?side1 ?side2 ?side3 ?side4 A36.out).mono ?_);(case side1=>repeat (first|exact (Kd.R_reads' HO_11.out).2.2|(with_reducible refine Kd.C_alloc ?_ _)|(with_reducible refine Kd.C_drewN ?_ _)|(with_reducible refine Kd.C_drew ?_)));(case side2=>exact (Kd.R_reads' HO_11.out).2.1);(case side3=>repeat (first|exact (Kd.R_reads' HO_8.out).2.2|(with_reducible refine Kd.C_alloc ?_ _)|(with_reducible refine Kd.C_drewN ?_ _)|(with_reducible refine Kd.C_drew ?_)));(case side4=>exact (Kd.R_reads' HO_8.out).2.1);rintro e w' ⟨rfl,⟨nd,rfl⟩⟩))
         go_meet
         case rel=>exact ⟨_,(true),(by first|rfl|(simp;done)|(simp [*];done)),H',⟨by have:=HJ10.out;first|omega|exact Nat.le_refl _⟩,⟨by (with_reducible repeat (first|apply Kd.R_alloc|apply Kd.R_drewN|apply Kd.R_drew));exact HO_8.out⟩,⟨by (with_reducible repeat (first|apply Kd.R_alloc|apply Kd.R_drewN|apply Kd.R_drew));exact HO_11.out⟩,⟨by repeat (first|(with_reducible first|exact HB.out|apply pa|apply pb|apply pd)|exact HB.out)⟩⟩
      case rest =>
       clear HC30
       try clear c1
       try clear c2
       try clear p2
       try clear c3
       try clear c5
       try clear c5b0
       try clear c6
       try clear c11
       try clear c20
       try clear c25
       try clear c28
       try clear c35
       try clear c35b0
       try clear c37
       try clear p2
       obtain ⟨kq,x69_29,rfl,HA,HJ29,HO_8,HO_11,HB⟩:=hcut
       cases kq with
       | zero=>exact absurd HA.out (by simp [laws_FnExactDecodeShards.j1])
       | succ kj29 =>
        have H:=HA.out
        clear HA
        simp only [laws_FnExactDecodeShards.j1] at H
        by_cases c42:x69_29=true
        ·subst c42
         have H1:(some false)=some r:=by rw [if_pos rfl] at H;exact H
         clear H
         have H:=H1
         clear H1
         obtain rfl:=Option.some.inj H
         go_wp2
         go_ret
         exact ⟨by first|rfl|(simp [errW_none,errW_some] <;> rfl)|(simp [*,errW_none,errW_some] <;> rfl),by repeat (first|(with_reducible first|exact HB.out|apply pa|apply pb|apply pd)|exact HB.out)⟩
        ·replace c42:=Bool.eq_false_iff.mpr c42
         subst c42
         have H1:((laws_markStringS.f kj29 t381 1).bind fun bt393=>((laws_heldStringS.f kj29 bt393.2 1).bind fun t395=>(if t395 < 0 then (some false) else (if t395=bt393.1 then ((laws_toShardS.f kj29 l0).bind fun t396=>((impl_DecodeShards.f kj29 t396 a1 a2).bind fun bt399=>((laws_eqStringS.f kj29 bt399.1 t374).bind fun t403=>(if t403=true then (laws_FnExactDecodeShards.j2 kj29 bt393.2 bt393.1 (bt399.2 != t375)) else (laws_FnExactDecodeShards.j2 kj29 bt393.2 bt393.1 true))))) else (some false)))))=some r:=by rw [if_neg (show ¬ (false=true) by decide)] at H;exact H
         clear H
         have H:=H1
         clear H1
         replace H:=Option.bind_eq_some_iff.mp H
         obtain ⟨⟨t393,t394⟩,A430,H⟩:=H
         replace H:((laws_heldStringS.f kj29 t394 1).bind fun t395=>(if t395 < 0 then (some false) else (if t395=t393 then ((laws_toShardS.f kj29 l0).bind fun t396=>((impl_DecodeShards.f kj29 t396 a1 a2).bind fun bt399=>((laws_eqStringS.f kj29 bt399.1 t374).bind fun t403=>(if t403=true then (laws_FnExactDecodeShards.j2 kj29 t394 t393 (bt399.2 != t375)) else (laws_FnExactDecodeShards.j2 kj29 t394 t393 true))))) else (some false))))=some r:=H
         have A43:=am A430
         clear A430
         replace H:=Option.bind_eq_some_iff.mp H
         obtain ⟨t395,A440,H⟩:=H
         replace H:(if t395 < 0 then (some false) else (if t395=t393 then ((laws_toShardS.f kj29 l0).bind fun t396=>((impl_DecodeShards.f kj29 t396 a1 a2).bind fun bt399=>((laws_eqStringS.f kj29 bt399.1 t374).bind fun t403=>(if t403=true then (laws_FnExactDecodeShards.j2 kj29 t394 t393 (bt399.2 != t375)) else (laws_FnExactDecodeShards.j2 kj29 t394 t393 true))))) else (some false)))=some r:=H
         have A44:=am A440
         clear A440
         by_cases c45:t395 < 0
         ·rw [if_pos c45] at H
          have c45b0:decide (t395 < 0)=true:=decide_eq_true c45
          clear c45
          obtain rfl:=Option.some.inj H
          obtain ⟨Ao46,co46,eo46⟩:=Kd.R_slice HO_11.out
          subst eo46
          go_wp2_with (first|((with_reducible refine gate_callee (f:=65) rfl ?_);refine goesL_ (some 72) rfl rfl Try.func65 (by kernel_rfl) rfl #[.slice Ao46 t381.length co46, .int .i64 1] rfl (by (try simp only [q4,q5,q6]);first|done|rfl|(simp only [q7,q8];rfl)) ?_;(with_reducible refine (laws_markStringS.calls kj29 (fun k_=>some k_=(.slice Ao46 t381.length co46:Value).ownBlock) (.slice Ao46 t381.length co46) t381 1 t393 t394 w _ ?side1 ?side2 A43.out).mono ?_);(case side1=>repeat (first|(with_reducible first|exact HB.out|apply pa|apply pb|apply pd)|exact HB.out));(case side2=>exact Kd.R_tight rfl HO_11.out);rintro e w47 ⟨rfl,hy0,hb,hkp⟩;refine ⟨_,rfl,?_⟩;have n0_:=am (Kd.R_mono (ok':=fun k_=>some k_ ≠ (.slice Ao46 t381.length co46:Value).ownBlock) (Kd.R_keptB (HO_8.out) hkp (fun k_ hk_ hs_=>(hk_) hs_)) (fun k_ hk_=>hk_.1));have n1_:=am (Kd.R_reok rfl hy0 (fun k_ e_=>HO_11.out.1 k_ e_));have n2_:=am (hb);clear HO_8;clear HO_11;clear HB;have HO_8:=n0_;have HO_11:=n1_;have HB:=n2_;clear n0_ n1_ n2_;(try clear hb);(try clear hkp);(try clear hy0))|((with_reducible refine gate_callee (f:=66) rfl ?_);refine goesL_ (some 75) rfl rfl Try.func66 (by kernel_rfl) rfl #[.slice Ao46 t394.length co46, .int .i64 1] rfl (by (try simp only [q4,q5,q6]);first|done|(rw [show t394.length=t381.length from (Kd.R_reads' HO_11.out).1.symm] <;> rfl)|rfl|(simp only [q7,q8];rfl)) ?_;(with_reducible refine (laws_heldStringS.calls kj29 _ _ t394 1 t395 _ ?side1 ?side2 A44.out).mono ?_);(case side1=>repeat (first|exact (Kd.R_reads' HO_11.out).2.2|(with_reducible refine Kd.C_alloc ?_ _)|(with_reducible refine Kd.C_drewN ?_ _)|(with_reducible refine Kd.C_drew ?_)));(case side2=>rw [show t394.length=t381.length from (Kd.R_reads' HO_11.out).1.symm];exact (Kd.R_reads' HO_11.out).2.1);rintro e w48 ⟨rfl,hb⟩;refine ⟨_,rfl,?_⟩;have n0_:=am (Kd.R_below (by (with_reducible repeat (first|apply Kd.R_alloc|apply Kd.R_drewN|apply Kd.R_drew));exact HO_8.out) hb);have n1_:=am (Kd.R_below (by (with_reducible repeat (first|apply Kd.R_alloc|apply Kd.R_drewN|apply Kd.R_drew));exact HO_11.out) hb);have n2_:=am (pu (by repeat (first|(with_reducible first|exact HB.out|apply pa|apply pb|apply pd)|exact HB.out)) hb);clear HO_8;clear HO_11;clear HB;have HO_8:=n0_;have HO_11:=n1_;have HB:=n2_;clear n0_ n1_ n2_;(try clear hb);(try clear hb2);(try clear hk);(try clear hi)))
          go_ret
          exact ⟨by first|rfl|(simp [errW_none,errW_some] <;> rfl)|(simp [*,errW_none,errW_some] <;> rfl),by repeat (first|(with_reducible first|exact HB.out|apply pa|apply pb|apply pd)|exact HB.out)⟩
         ·rw [if_neg c45] at H
          have c45b0:decide (t395 < 0)=false:=decide_eq_false c45
          clear c45
          by_cases c49:t395=t393
          ·rw [if_pos c49] at H
           have c49b0:(t395 == t393)=true:=beq_iff_eq.mpr c49
           have c49b1:(t395 != t393)=false:=bne_eq_false_iff_eq.mpr c49
           clear c49
           replace H:=Option.bind_eq_some_iff.mp H
           obtain ⟨t396,A500,H⟩:=H
           replace H:((impl_DecodeShards.f kj29 t396 a1 a2).bind fun bt399=>((laws_eqStringS.f kj29 bt399.1 t374).bind fun t403=>(if t403=true then (laws_FnExactDecodeShards.j2 kj29 t394 t393 (bt399.2 != t375)) else (laws_FnExactDecodeShards.j2 kj29 t394 t393 true))))=some r:=H
           have A50:=am A500
           clear A500
           replace H:=Option.bind_eq_some_iff.mp H
           obtain ⟨⟨t399,t400⟩,A510,H⟩:=H
           replace H:((laws_eqStringS.f kj29 t399 t374).bind fun t403=>(if t403=true then (laws_FnExactDecodeShards.j2 kj29 t394 t393 (t400 != t375)) else (laws_FnExactDecodeShards.j2 kj29 t394 t393 true)))=some r:=H
           have A51:=am A510
           clear A510
           have HC52:=am H
           clear H
           obtain ⟨Ao53,co53,eo53⟩:=Kd.R_slice HO_11.out
           subst eo53
           go_upto_region 25 with (first|((with_reducible refine gate_callee (f:=65) rfl ?_);refine goesL_ (some 72) rfl rfl Try.func65 (by kernel_rfl) rfl #[.slice Ao53 t381.length co53, .int .i64 1] rfl (by (try simp only [q4,q5,q6]);first|done|rfl|(simp only [q7,q8];rfl)) ?_;(with_reducible refine (laws_markStringS.calls kj29 (fun k_=>some k_=(.slice Ao53 t381.length co53:Value).ownBlock) (.slice Ao53 t381.length co53) t381 1 t393 t394 w _ ?side1 ?side2 A43.out).mono ?_);(case side1=>repeat (first|(with_reducible first|exact HB.out|apply pa|apply pb|apply pd)|exact HB.out));(case side2=>exact Kd.R_tight rfl HO_11.out);rintro e w54 ⟨rfl,hy0,hb,hkp⟩;refine ⟨_,rfl,?_⟩;have n0_:=am (Kd.R_mono (ok':=fun k_=>some k_ ≠ (.slice Ao53 t381.length co53:Value).ownBlock) (Kd.R_keptB (HO_8.out) hkp (fun k_ hk_ hs_=>(hk_) hs_)) (fun k_ hk_=>hk_.1));have n1_:=am (Kd.R_reok rfl hy0 (fun k_ e_=>HO_11.out.1 k_ e_));have n2_:=am (hb);clear HO_8;clear HO_11;clear HB;have HO_8:=n0_;have HO_11:=n1_;have HB:=n2_;clear n0_ n1_ n2_;(try clear hb);(try clear hkp);(try clear hy0))|((with_reducible refine gate_callee (f:=66) rfl ?_);refine goesL_ (some 75) rfl rfl Try.func66 (by kernel_rfl) rfl #[.slice Ao53 t394.length co53, .int .i64 1] rfl (by (try simp only [q4,q5,q6]);first|done|(rw [show t394.length=t381.length from (Kd.R_reads' HO_11.out).1.symm] <;> rfl)|rfl|(simp only [q7,q8];rfl)) ?_;(with_reducible refine (laws_heldStringS.calls kj29 _ _ t394 1 t395 _ ?side1 ?side2 A44.out).mono ?_);(case side1=>repeat (first|exact (Kd.R_reads' HO_11.out).2.2|(with_reducible refine Kd.C_alloc ?_ _)|(with_reducible refine Kd.C_drewN ?_ _)|(with_reducible refine Kd.C_drew ?_)));(case side2=>rw [show t394.length=t381.length from (Kd.R_reads' HO_11.out).1.symm];exact (Kd.R_reads' HO_11.out).2.1);rintro e w55 ⟨rfl,hb⟩;refine ⟨_,rfl,?_⟩;have n0_:=am (Kd.R_below (by (with_reducible repeat (first|apply Kd.R_alloc|apply Kd.R_drewN|apply Kd.R_drew));exact HO_8.out) hb);have n1_:=am (Kd.R_below (by (with_reducible repeat (first|apply Kd.R_alloc|apply Kd.R_drewN|apply Kd.R_drew));exact HO_11.out) hb);have n2_:=am (pu (by repeat (first|(with_reducible first|exact HB.out|apply pa|apply pb|apply pd)|exact HB.out)) hb);clear HO_8;clear HO_11;clear HB;have HO_8:=n0_;have HO_11:=n1_;have HB:=n2_;clear n0_ n1_ n2_;(try clear hb);(try clear hb2);(try clear hk);(try clear hi))|((with_reducible refine gate_callee (f:=55) rfl ?_);refine goesL_ (some 83) rfl rfl Try.func55 (by kernel_rfl) rfl #[.slice A0 l0.length c0] rfl (by (try simp only [q4,q5,q6]);first|done|rfl|(simp only [q7,q8];rfl)) ?_;(with_reducible refine (laws_toShardS.calls kj29 _ _ l0 t396 _ ?side1 ?side2 A50.out).mono ?_);(case side1=>repeat (first|exact (Kd.C_below HR0.out HB.out)|(with_reducible refine Kd.C_alloc ?_ _)|(with_reducible refine Kd.C_drewN ?_ _)|(with_reducible refine Kd.C_drew ?_)));(case side2=>exact HC0.out);rintro e w56 ⟨v397,rfl,ho0,hb⟩;refine ⟨_,rfl,?_⟩;have n0_:=am (Kd.R_below (by (with_reducible repeat (first|apply Kd.R_alloc|apply Kd.R_drewN|apply Kd.R_drew));exact HO_8.out) hb);have n1_:=am (Kd.R_below (by (with_reducible repeat (first|apply Kd.R_alloc|apply Kd.R_drewN|apply Kd.R_drew));exact HO_11.out) hb);have n2_:=am (Kd.R_lower ho0 (pz (by repeat (first|(with_reducible first|exact HB.out|apply pa|apply pb|apply pd)|exact HB.out))));have n3_:=am (pu (by repeat (first|(with_reducible first|exact HB.out|apply pa|apply pb|apply pd)|exact HB.out)) hb);clear HO_8;clear HO_11;clear HB;have HO_8:=n0_;have HO_11:=n1_;have HO398:=n2_;have HB:=n3_;clear n0_ n1_ n2_ n3_;(try clear hb);(try clear hb2);(try clear hk);(try clear hi);(try clear ho0);obtain ⟨Ao57,co57,eo57⟩:=Kd.R_slice HO398.out;subst eo57)|((with_reducible refine gate_callee (f:=62) rfl ?_);refine goesL_ (some 86) rfl rfl Try.func62 (by kernel_rfl) rfl #[.slice Ao57 t396.length co57, .int .i64 a1, .int .i64 a2] rfl (by (try simp only [q4,q5,q6]);first|done|rfl|(simp only [q7,q8];rfl)) ?_;(with_reducible refine (impl_DecodeShards.calls kj29 _ _ t396 a1 a2 t399 t400 _ ?side1 ?side2 A51.out).mono ?_);(case side1=>repeat (first|exact (Kd.R_reads' HO398.out).2.2|(with_reducible refine Kd.C_alloc ?_ _)|(with_reducible refine Kd.C_drewN ?_ _)|(with_reducible refine Kd.C_drew ?_)));(case side2=>exact (Kd.R_reads' HO398.out).2.1);rintro e w58 ⟨v401,rfl,ho0,hb⟩;refine ⟨_,rfl,?_⟩;have n0_:=am (Kd.R_elder' (by (with_reducible repeat (first|apply Kd.R_alloc|apply Kd.R_drewN|apply Kd.R_drew));exact HO_8.out) (Kd.R_base ho0) hb);have n1_:=am (Kd.R_elder' (by (with_reducible repeat (first|apply Kd.R_alloc|apply Kd.R_drewN|apply Kd.R_drew));exact HO_11.out) (Kd.R_base ho0) hb);have n2_:=am (Kd.R_below (by (with_reducible repeat (first|apply Kd.R_alloc|apply Kd.R_drewN|apply Kd.R_drew));exact HO398.out) hb);have n3_:=am (Kd.R_lower (Kd.R_new' (Kd.R_new' ho0 (Kd.R_lt (by (with_reducible repeat (first|apply Kd.R_alloc|apply Kd.R_drewN|apply Kd.R_drew));exact HO_8.out))) (Kd.R_lt (by (with_reducible repeat (first|apply Kd.R_alloc|apply Kd.R_drewN|apply Kd.R_drew));exact HO_11.out))) (pz (by repeat (first|(with_reducible first|exact HB.out|apply pa|apply pb|apply pd)|exact HB.out))));have n4_:=am (pu (by repeat (first|(with_reducible first|exact HB.out|apply pa|apply pb|apply pd)|exact HB.out)) hb);clear HO_8;clear HO_11;clear HO398;clear HB;have HO_8:=n0_;have HO_11:=n1_;have HO398:=n2_;have HO402:=n3_;have HB:=n4_;clear n0_ n1_ n2_ n3_ n4_;(try clear hb);(try clear hb2);(try clear hk);(try clear hi);(try clear ho0)))
           (try simp only [Act.put,q1,q2,q3])
           go_cut [97] (fun v97 wc=>∃ (kq:Nat) (x97_51:Bool),v97 = .bool x97_51∧Aside0 (laws_FnExactDecodeShards.j2 kq t394 t393 x97_51=some r)∧Aside0 (kq≤kj29)∧Aside0 (Kd.R Kd.string 9 wc w.heap.size (fun _=>True) (.slice Ao53 t381.length co53) t394)∧Aside0 (Below w.heap.size w wc))
           case first =>
            have H:=HC52.out
            clear HC52
            replace H:=Option.bind_eq_some_iff.mp H
            obtain ⟨t403,A590,H⟩:=H
            replace H:(if t403=true then (laws_FnExactDecodeShards.j2 kj29 t394 t393 (t400 != t375)) else (laws_FnExactDecodeShards.j2 kj29 t394 t393 true))=some r:=H
            have A59:=am A590
            clear A590
            by_cases c60:t403=true
            ·subst c60
             have H1:(laws_FnExactDecodeShards.j2 kj29 t394 t393 (t400 != t375))=some r:=by rw [if_pos rfl] at H;exact H
             clear H
             have H:=H1
             clear H1
             have H':=am H
             clear H
             obtain ⟨Ao61,co61,eo61⟩:=Kd.R_slice HO402.out
             subst eo61
             obtain ⟨Ao62,co62,eo62⟩:=Kd.R_slice HO_8.out
             subst eo62
             go_wp2_with (first|((with_reducible refine gate_callee (f:=63) rfl ?_);refine goesL_ (some 91) rfl rfl Try.func63 (by kernel_rfl) rfl #[.slice Ao61 t399.length co61, .slice Ao62 t374.length co62] rfl (by (try simp only [q4,q5,q6]);first|done|rfl|(simp only [q7,q8];rfl)) ?_;(with_reducible refine (laws_eqStringS.calls kj29 _ _ t399 _ _ t374 true _ ?side1 ?side2 ?side3 ?side4 A59.out).mono ?_);(case side1=>repeat (first|exact (Kd.R_reads' HO402.out).2.2|(with_reducible refine Kd.C_alloc ?_ _)|(with_reducible refine Kd.C_drewN ?_ _)|(with_reducible refine Kd.C_drew ?_)));(case side2=>exact (Kd.R_reads' HO402.out).2.1);(case side3=>repeat (first|exact (Kd.R_reads' HO_8.out).2.2|(with_reducible refine Kd.C_alloc ?_ _)|(with_reducible refine Kd.C_drewN ?_ _)|(with_reducible refine Kd.C_drew ?_)));(case side4=>exact (Kd.R_reads' HO_8.out).2.1);rintro e w' ⟨rfl,⟨nd,rfl⟩⟩;refine ⟨_,rfl,?_⟩))
             go_meet
             case rel=>exact ⟨_,((t400 != t375)),(by first|rfl|(simp;done)|(simp [*];done)),H',⟨by have:=HJ10.out;have:=HJ29.out;first|omega|exact Nat.le_refl _⟩,⟨by (with_reducible repeat (first|apply Kd.R_alloc|apply Kd.R_drewN|apply Kd.R_drew));exact Kd.R_mono HO_11.out (fun _ hk=>trivial)⟩,⟨by repeat (first|(with_reducible first|exact HB.out|apply pa|apply pb|apply pd)|exact HB.out)⟩⟩
            ·replace c60:=Bool.eq_false_iff.mpr c60
             subst c60
             have H1:(laws_FnExactDecodeShards.j2 kj29 t394 t393 true)=some r:=by rw [if_neg (show ¬ (false=true) by decide)] at H;exact H
             clear H
             have H:=H1
             clear H1
             have H':=am H
             clear H
             obtain ⟨Ao63,co63,eo63⟩:=Kd.R_slice HO402.out
             subst eo63
             obtain ⟨Ao64,co64,eo64⟩:=Kd.R_slice HO_8.out
             subst eo64
             go_wp2_with (first|((with_reducible refine gate_callee (f:=63) rfl ?_);refine goesL_ (some 91) rfl rfl Try.func63 (by kernel_rfl) rfl #[.slice Ao63 t399.length co63, .slice Ao64 t374.length co64] rfl (by (try simp only [q4,q5,q6]);first|done|rfl|(simp only [q7,q8];rfl)) ?_;(with_reducible refine (laws_eqStringS.calls kj29 _ _ t399 _ _ t374 false _ ?side1 ?side2 ?side3 ?side4 A59.out).mono ?_);(case side1=>repeat (first|exact (Kd.R_reads' HO402.out).2.2|(with_reducible refine Kd.C_alloc ?_ _)|(with_reducible refine Kd.C_drewN ?_ _)|(with_reducible refine Kd.C_drew ?_)));(case side2=>exact (Kd.R_reads' HO402.out).2.1);(case side3=>repeat (first|exact (Kd.R_reads' HO_8.out).2.2|(with_reducible refine Kd.C_alloc ?_ _)|(with_reducible refine Kd.C_drewN ?_ _)|(with_reducible refine Kd.C_drew ?_)));(case side4=>exact (Kd.R_reads' HO_8.out).2.1);rintro e w' ⟨rfl,⟨nd,rfl⟩⟩;refine ⟨_,rfl,?_⟩))
             go_meet
             case rel=>exact ⟨_,(true),(by first|rfl|(simp;done)|(simp [*];done)),H',⟨by have:=HJ10.out;have:=HJ29.out;first|omega|exact Nat.le_refl _⟩,⟨by (with_reducible repeat (first|apply Kd.R_alloc|apply Kd.R_drewN|apply Kd.R_drew));exact Kd.R_mono HO_11.out (fun _ hk=>trivial)⟩,⟨by repeat (first|(with_reducible first|exact HB.out|apply pa|apply pb|apply pd)|exact HB.out)⟩⟩
           case rest =>
            clear HC52
            try clear c1
            try clear c2
            try clear p2
            try clear c3
            try clear c4
            try clear c5
            try clear c5b0
            try clear c6
            try clear c11
            try clear c20
            try clear c25
            try clear c28
            try clear c35
            try clear c35b0
            try clear c37
            try clear c42
            try clear c45
            try clear c45b0
            try clear c49
            try clear c49b0
            try clear c49b1
            try clear c53
            try clear c55
            try clear c58
            try clear c60
            try clear c61
            try clear c62
            try clear c63
            try clear c64
            try clear p2
            obtain ⟨kq,x97_51,rfl,HA,HJ51,HO_11,HB⟩:=hcut
            have hl11_51:=(Kd.R_reads' HO_11.out).1
            rw [hl11_51] at HO_11
            (try simp only [hl11_51])
            cases kq with
            | zero=>exact absurd HA.out (by simp [laws_FnExactDecodeShards.j2])
            | succ kj51 =>
             have H:=HA.out
             clear HA
             simp only [laws_FnExactDecodeShards.j2] at H
             by_cases c65:x97_51=true
             ·subst c65
              have H1:(some false)=some r:=by rw [if_pos rfl] at H;exact H
              clear H
              have H:=H1
              clear H1
              obtain rfl:=Option.some.inj H
              go_wp2
              go_ret
              exact ⟨by first|rfl|(simp [errW_none,errW_some] <;> rfl)|(simp [*,errW_none,errW_some] <;> rfl),by repeat (first|(with_reducible first|exact HB.out|apply pa|apply pb|apply pd)|exact HB.out)⟩
             ·replace c65:=Bool.eq_false_iff.mpr c65
              subst c65
              have H1:((laws_heldStringS.f kj51 t394 1).bind fun t404=>(if t404 < 0 then (some false) else (if t404=t393 then (some true) else (some false))))=some r:=by rw [if_neg (show ¬ (false=true) by decide)] at H;exact H
              clear H
              have H:=H1
              clear H1
              replace H:=Option.bind_eq_some_iff.mp H
              obtain ⟨t404,A660,H⟩:=H
              replace H:(if t404 < 0 then (some false) else (if t404=t393 then (some true) else (some false)))=some r:=H
              have A66:=am A660
              clear A660
              by_cases c67:t404 < 0
              ·rw [if_pos c67] at H
               have c67b0:decide (t404 < 0)=true:=decide_eq_true c67
               clear c67
               obtain rfl:=Option.some.inj H
               go_wp2_with (first|((with_reducible refine gate_callee (f:=66) rfl ?_);refine goesL_ (some 100) rfl rfl Try.func66 (by kernel_rfl) rfl #[.slice Ao53 t394.length co53, .int .i64 1] rfl (by (try simp only [q4,q5,q6]);first|done|rfl|(simp only [q7,q8];rfl)) ?_;(with_reducible refine (laws_heldStringS.calls kj51 _ _ t394 1 t404 _ ?side1 ?side2 A66.out).mono ?_);(case side1=>repeat (first|exact (Kd.R_reads' HO_11.out).2.2|(with_reducible refine Kd.C_alloc ?_ _)|(with_reducible refine Kd.C_drewN ?_ _)|(with_reducible refine Kd.C_drew ?_)));(case side2=>exact (Kd.R_reads' HO_11.out).2.1);rintro e w68 ⟨rfl,hb⟩;refine ⟨_,rfl,?_⟩;have n0_:=am (Kd.R_below (by (with_reducible repeat (first|apply Kd.R_alloc|apply Kd.R_drewN|apply Kd.R_drew));exact HO_11.out) hb);have n1_:=am (pu (by repeat (first|(with_reducible first|exact HB.out|apply pa|apply pb|apply pd)|exact HB.out)) hb);clear HO_11;clear HB;have HO_11:=n0_;have HB:=n1_;clear n0_ n1_;(try clear hb);(try clear hb2);(try clear hk);(try clear hi)))
               go_ret
               exact ⟨by first|rfl|(simp [errW_none,errW_some] <;> rfl)|(simp [*,errW_none,errW_some] <;> rfl),by repeat (first|(with_reducible first|exact HB.out|apply pa|apply pb|apply pd)|exact HB.out)⟩
              ·rw [if_neg c67] at H
               have c67b0:decide (t404 < 0)=false:=decide_eq_false c67
               clear c67
               by_cases c69:t404=t393
               ·rw [if_pos c69] at H
                have c69b0:(t404 == t393)=true:=beq_iff_eq.mpr c69
                have c69b1:(t404 != t393)=false:=bne_eq_false_iff_eq.mpr c69
                clear c69
                obtain rfl:=Option.some.inj H
                go_wp2_with (first|((with_reducible refine gate_callee (f:=66) rfl ?_);refine goesL_ (some 100) rfl rfl Try.func66 (by kernel_rfl) rfl #[.slice Ao53 t394.length co53, .int .i64 1] rfl (by (try simp only [q4,q5,q6]);first|done|rfl|(simp only [q7,q8];rfl)) ?_;(with_reducible refine (laws_heldStringS.calls kj51 _ _ t394 1 t404 _ ?side1 ?side2 A66.out).mono ?_);(case side1=>repeat (first|exact (Kd.R_reads' HO_11.out).2.2|(with_reducible refine Kd.C_alloc ?_ _)|(with_reducible refine Kd.C_drewN ?_ _)|(with_reducible refine Kd.C_drew ?_)));(case side2=>exact (Kd.R_reads' HO_11.out).2.1);rintro e w70 ⟨rfl,hb⟩;refine ⟨_,rfl,?_⟩;have n0_:=am (Kd.R_below (by (with_reducible repeat (first|apply Kd.R_alloc|apply Kd.R_drewN|apply Kd.R_drew));exact HO_11.out) hb);have n1_:=am (pu (by repeat (first|(with_reducible first|exact HB.out|apply pa|apply pb|apply pd)|exact HB.out)) hb);clear HO_11;clear HB;have HO_11:=n0_;have HB:=n1_;clear n0_ n1_;(try clear hb);(try clear hb2);(try clear hk);(try clear hi)))
                go_ret
                exact ⟨by first|rfl|(simp [errW_none,errW_some] <;> rfl)|(simp [*,errW_none,errW_some] <;> rfl),by repeat (first|(with_reducible first|exact HB.out|apply pa|apply pb|apply pd)|exact HB.out)⟩
               ·rw [if_neg c69] at H
                have c69b0:(t404 == t393)=false:=beq_eq_false_iff_ne.mpr c69
                have c69b1:(t404 != t393)=true:=bne_iff_ne.mpr c69
                obtain rfl:=Option.some.inj H
                go_wp2_with (first|((with_reducible refine gate_callee (f:=66) rfl ?_);refine goesL_ (some 100) rfl rfl Try.func66 (by kernel_rfl) rfl #[.slice Ao53 t394.length co53, .int .i64 1] rfl (by (try simp only [q4,q5,q6]);first|done|rfl|(simp only [q7,q8];rfl)) ?_;(with_reducible refine (laws_heldStringS.calls kj51 _ _ t394 1 t404 _ ?side1 ?side2 A66.out).mono ?_);(case side1=>repeat (first|exact (Kd.R_reads' HO_11.out).2.2|(with_reducible refine Kd.C_alloc ?_ _)|(with_reducible refine Kd.C_drewN ?_ _)|(with_reducible refine Kd.C_drew ?_)));(case side2=>exact (Kd.R_reads' HO_11.out).2.1);rintro e w71 ⟨rfl,hb⟩;refine ⟨_,rfl,?_⟩;have n0_:=am (Kd.R_below (by (with_reducible repeat (first|apply Kd.R_alloc|apply Kd.R_drewN|apply Kd.R_drew));exact HO_11.out) hb);have n1_:=am (pu (by repeat (first|(with_reducible first|exact HB.out|apply pa|apply pb|apply pd)|exact HB.out)) hb);clear HO_11;clear HB;have HO_11:=n0_;have HB:=n1_;clear n0_ n1_;(try clear hb);(try clear hb2);(try clear hk);(try clear hi)))
                go_ret
                exact ⟨by first|rfl|(simp [errW_none,errW_some] <;> rfl)|(simp [*,errW_none,errW_some] <;> rfl),by repeat (first|(with_reducible first|exact HB.out|apply pa|apply pb|apply pd)|exact HB.out)⟩
          ·rw [if_neg c49] at H
           have c49b0:(t395 == t393)=false:=beq_eq_false_iff_ne.mpr c49
           have c49b1:(t395 != t393)=true:=bne_iff_ne.mpr c49
           obtain rfl:=Option.some.inj H
           obtain ⟨Ao72,co72,eo72⟩:=Kd.R_slice HO_11.out
           subst eo72
           go_wp2_with (first|((with_reducible refine gate_callee (f:=65) rfl ?_);refine goesL_ (some 72) rfl rfl Try.func65 (by kernel_rfl) rfl #[.slice Ao72 t381.length co72, .int .i64 1] rfl (by (try simp only [q4,q5,q6]);first|done|rfl|(simp only [q7,q8];rfl)) ?_;(with_reducible refine (laws_markStringS.calls kj29 (fun k_=>some k_=(.slice Ao72 t381.length co72:Value).ownBlock) (.slice Ao72 t381.length co72) t381 1 t393 t394 w _ ?side1 ?side2 A43.out).mono ?_);(case side1=>repeat (first|(with_reducible first|exact HB.out|apply pa|apply pb|apply pd)|exact HB.out));(case side2=>exact Kd.R_tight rfl HO_11.out);rintro e w73 ⟨rfl,hy0,hb,hkp⟩;refine ⟨_,rfl,?_⟩;have n0_:=am (Kd.R_mono (ok':=fun k_=>some k_ ≠ (.slice Ao72 t381.length co72:Value).ownBlock) (Kd.R_keptB (HO_8.out) hkp (fun k_ hk_ hs_=>(hk_) hs_)) (fun k_ hk_=>hk_.1));have n1_:=am (Kd.R_reok rfl hy0 (fun k_ e_=>HO_11.out.1 k_ e_));have n2_:=am (hb);clear HO_8;clear HO_11;clear HB;have HO_8:=n0_;have HO_11:=n1_;have HB:=n2_;clear n0_ n1_ n2_;(try clear hb);(try clear hkp);(try clear hy0))|((with_reducible refine gate_callee (f:=66) rfl ?_);refine goesL_ (some 75) rfl rfl Try.func66 (by kernel_rfl) rfl #[.slice Ao72 t394.length co72, .int .i64 1] rfl (by (try simp only [q4,q5,q6]);first|done|(rw [show t394.length=t381.length from (Kd.R_reads' HO_11.out).1.symm] <;> rfl)|rfl|(simp only [q7,q8];rfl)) ?_;(with_reducible refine (laws_heldStringS.calls kj29 _ _ t394 1 t395 _ ?side1 ?side2 A44.out).mono ?_);(case side1=>repeat (first|exact (Kd.R_reads' HO_11.out).2.2|(with_reducible refine Kd.C_alloc ?_ _)|(with_reducible refine Kd.C_drewN ?_ _)|(with_reducible refine Kd.C_drew ?_)));(case side2=>rw [show t394.length=t381.length from (Kd.R_reads' HO_11.out).1.symm];exact (Kd.R_reads' HO_11.out).2.1);rintro e w74 ⟨rfl,hb⟩;refine ⟨_,rfl,?_⟩;have n0_:=am (Kd.R_below (by (with_reducible repeat (first|apply Kd.R_alloc|apply Kd.R_drewN|apply Kd.R_drew));exact HO_8.out) hb);have n1_:=am (Kd.R_below (by (with_reducible repeat (first|apply Kd.R_alloc|apply Kd.R_drewN|apply Kd.R_drew));exact HO_11.out) hb);have n2_:=am (pu (by repeat (first|(with_reducible first|exact HB.out|apply pa|apply pb|apply pd)|exact HB.out)) hb);clear HO_8;clear HO_11;clear HB;have HO_8:=n0_;have HO_11:=n1_;have HB:=n2_;clear n0_ n1_ n2_;(try clear hb);(try clear hb2);(try clear hk);(try clear hi)))
           go_ret
           exact ⟨by first|rfl|(simp [errW_none,errW_some] <;> rfl)|(simp [*,errW_none,errW_some] <;> rfl),by repeat (first|(with_reducible first|exact HB.out|apply pa|apply pb|apply pd)|exact HB.out)⟩
     ·replace c28:=Bool.eq_false_iff.mpr c28
      subst c28
      have H1:(some false)=some r:=by rw [if_neg (show ¬ (false=true) by decide)] at H;exact H
      clear H
      have H:=H1
      clear H1
      obtain rfl:=Option.some.inj H
      go_wp2_with (first|((with_reducible refine gate_callee (f:=55) rfl ?_);refine goesL_ (some 51) rfl rfl Try.func55 (by kernel_rfl) rfl #[.slice A0 l0.length c0] rfl (by (try simp only [q4,q5,q6]);first|done|rfl|(simp only [q7,q8];rfl)) ?_;(with_reducible refine (laws_toShardS.calls kj10 _ _ l0 t386 _ ?side1 ?side2 A26.out).mono ?_);(case side1=>repeat (first|exact (Kd.C_below HR0.out HB.out)|(with_reducible refine Kd.C_alloc ?_ _)|(with_reducible refine Kd.C_drewN ?_ _)|(with_reducible refine Kd.C_drew ?_)));(case side2=>exact HC0.out);rintro e w75 ⟨v387,rfl,ho0,hb⟩;refine ⟨_,rfl,?_⟩;have n0_:=am (Kd.R_below (by (with_reducible repeat (first|apply Kd.R_alloc|apply Kd.R_drewN|apply Kd.R_drew));exact HO_8.out) hb);have n1_:=am (Kd.R_elder' (by (with_reducible repeat (first|apply Kd.R_alloc|apply Kd.R_drewN|apply Kd.R_drew));exact HO_10.out) (Kd.R_base ho0) hb);have n2_:=am (Kd.R_below (by (with_reducible repeat (first|apply Kd.R_alloc|apply Kd.R_drewN|apply Kd.R_drew));exact HO_11.out) hb);have n3_:=am (Kd.R_lower (Kd.R_new' ho0 (Kd.R_lt (by (with_reducible repeat (first|apply Kd.R_alloc|apply Kd.R_drewN|apply Kd.R_drew));exact HO_10.out))) (pz (by repeat (first|(with_reducible first|exact HB.out|apply pa|apply pb|apply pd)|exact HB.out))));have n4_:=am (pu (by repeat (first|(with_reducible first|exact HB.out|apply pa|apply pb|apply pd)|exact HB.out)) hb);clear HO_8;clear HO_10;clear HO_11;clear HB;have HO_8:=n0_;have HO_10:=n1_;have HO_11:=n2_;have HO388:=n3_;have HB:=n4_;clear n0_ n1_ n2_ n3_ n4_;(try clear hb);(try clear hb2);(try clear hk);(try clear hi);(try clear ho0);obtain ⟨Ao76,co76,eo76⟩:=Kd.R_slice HO388.out;subst eo76)|((with_reducible refine gate_callee (f:=58) rfl ?_);refine goesL_ (some 52) rfl rfl Try.func58 (by kernel_rfl) rfl #[.slice Ao17 t378.length co17, .slice Ao76 t386.length co76] rfl (by (try simp only [q4,q5,q6]);first|done|rfl|(simp only [q7,q8];rfl)) ?_;(with_reducible refine (laws_eqShardS.calls kj10 _ _ t378 _ _ t386 false _ ?side1 ?side2 ?side3 ?side4 A27.out).mono ?_);(case side1=>repeat (first|exact (Kd.R_reads' HO_10.out).2.2|(with_reducible refine Kd.C_alloc ?_ _)|(with_reducible refine Kd.C_drewN ?_ _)|(with_reducible refine Kd.C_drew ?_)));(case side2=>exact (Kd.R_reads' HO_10.out).2.1);(case side3=>repeat (first|exact (Kd.R_reads' HO388.out).2.2|(with_reducible refine Kd.C_alloc ?_ _)|(with_reducible refine Kd.C_drewN ?_ _)|(with_reducible refine Kd.C_drew ?_)));(case side4=>exact (Kd.R_reads' HO388.out).2.1);rintro e w77 ⟨rfl,hb⟩;refine ⟨_,rfl,?_⟩;have n0_:=am (Kd.R_below (by (with_reducible repeat (first|apply Kd.R_alloc|apply Kd.R_drewN|apply Kd.R_drew));exact HO_8.out) hb);have n1_:=am (Kd.R_below (by (with_reducible repeat (first|apply Kd.R_alloc|apply Kd.R_drewN|apply Kd.R_drew));exact HO_10.out) hb);have n2_:=am (Kd.R_below (by (with_reducible repeat (first|apply Kd.R_alloc|apply Kd.R_drewN|apply Kd.R_drew));exact HO_11.out) hb);have n3_:=am (Kd.R_below (by (with_reducible repeat (first|apply Kd.R_alloc|apply Kd.R_drewN|apply Kd.R_drew));exact HO388.out) hb);have n4_:=am (pu (by repeat (first|(with_reducible first|exact HB.out|apply pa|apply pb|apply pd)|exact HB.out)) hb);clear HO_8;clear HO_10;clear HO_11;clear HO388;clear HB;have HO_8:=n0_;have HO_10:=n1_;have HO_11:=n2_;have HO388:=n3_;have HB:=n4_;clear n0_ n1_ n2_ n3_ n4_;(try clear hb);(try clear hb2);(try clear hk);(try clear hi)))
      go_ret
      exact ⟨by first|rfl|(simp [errW_none,errW_some] <;> rfl)|(simp [*,errW_none,errW_some] <;> rfl),by repeat (first|(with_reducible first|exact HB.out|apply pa|apply pb|apply pd)|exact HB.out)⟩

end Go.Proofs.Ytajikfnpcobnpaa.PFnExactDecodeShards
-- HALVED
-- SQUEEZED
-- SQUEEZED2
-- SQUEEZED3
