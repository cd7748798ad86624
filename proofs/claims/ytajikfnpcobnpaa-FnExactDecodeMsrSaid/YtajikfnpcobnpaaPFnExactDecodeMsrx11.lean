-- Laid by a program of this session.
import Derived.Test.YtajikfnpcobnpaaPFnExactDecodeMsrx0
import Derived.Test.YtajikfnpcobnpaaPFnExactDecodeMsrx6
import Derived.Test.YtajikfnpcobnpaaPFnExactDecodeMsrx7
import Derived.Test.YtajikfnpcobnpaaPFnExactDecodeMsrx10
namespace Go.Proofs.Ytajikfnpcobnpaa.PFnExactDecodeMsr
open Go.RowKit Go.Proofs.YtajikfnpcobnpaaW.PrintWords Go.Proofs.YtajikfnpcobnpaaW.PrintLast Go.Proofs.YtajikfnpcobnpaaW.PrintMore
attribute [local go_sem] max2_int min2_int max_two min_two max_three min_three max_four min_four   -- for this text's walks alone
set_option linter.unusedVariables false
set_option maxHeartbeats 8000000
set_option maxRecDepth 100000
set_option linter.unusedSimpArgs false

mutual
def spec_DecodeMsr.j0:Nat→List (S69)→Bool→Int→Int→Option (List Int × Bool)
 | 0,_,_,_,_=>none
 | k+1,x1,x21,x258000,x258001=>if x21=true then (some (([]:List Int),false)) else (spec_DecodeMsr.l0 k x1 ([]:List Int) x1 (x1.length:Int) 0 x258000 x258001 ([]:List (List Int)))
def spec_DecodeMsr.l0:Nat→List (S69)→List Int→List (S69)→Int→Int→Int→Int→List (List Int)→Option (List Int × Bool)
 | 0,_,_,_,_,_,_,_,_=>none
 | k+1,x1,x7,x23,x24,x25,x258000,x258001,x260000=>if x25 < x24 then (if 0≤x25 then (if x25 < (x23.length:Int) then ((spec_l5Piece.f x258000 x258001 ((rd_T69 x23 x25).f0) ((rd_T69 x23 x25).f1)).bind fun t262=>(if t262=true then (if x25 > 0 then (if 0≤(wrap64 (x25 - 1)) then (if (wrap64 (x25 - 1)) < (x1.length:Int) then (spec_DecodeMsr.j2 k x1 x7 x25 x23 x24 x25 (decide (((rd_T69 x1 (wrap64 (x25 - 1))).f0) ≥ ((rd_T69 x23 x25).f0))) x258000 x258001 x260000 ((rd_T69 x23 x25).f0) ((rd_T69 x23 x25).f1)) else (none)) else (none)) else (spec_DecodeMsr.j2 k x1 x7 x25 x23 x24 x25 false x258000 x258001 x260000 ((rd_T69 x23 x25).f0) ((rd_T69 x23 x25).f1))) else (spec_DecodeMsr.j2 k x1 x7 x25 x23 x24 x25 true x258000 x258001 x260000 ((rd_T69 x23 x25).f0) ((rd_T69 x23 x25).f1)))) else (none)) else (none)) else ((spec_l2Inverse.f x260000).bind fun bt273=>(if bt273.2=true then ((spec_l2Apply.f k bt273.1 x7).bind fun t278=>(some (t278,true))) else (some (([]:List Int),false))))
def spec_DecodeMsr.j2:Nat→List (S69)→List Int→Int→List (S69)→Int→Int→Bool→Int→Int→List (List Int)→Int→List Int→Option (List Int × Bool)
 | 0,_,_,_,_,_,_,_,_,_,_,_,_=>none
 | k+1,x1,x7,x8,x23,x24,x25,x48,x258000,x258001,x260000,x262000,x262001=>if x48=true then (some (([]:List Int),false)) else (if x8 < x258001 then ((spec_l5Unknowns.f k x258000 x258001 x262000).bind fun t264=>(if x260000.length+t264.length < 5864062014805 then (if x7.length+x262001.length < 140737488355328 then (spec_DecodeMsr.l0 k x1 (x7 ++ x262001) x23 x24 (wrap64 (x25+1)) x258000 x258001 (x260000 ++ t264)) else (none)) else (none))) else (spec_DecodeMsr.l0 k x1 x7 x23 x24 (wrap64 (x25+1)) x258000 x258001 x260000))
end
def spec_DecodeMsr.f (k:Nat) (a0_0:Int) (a0_1:Int) (l1:List (S69)):Option (List Int × Bool):=(spec_GoodMsr.f a0_0 a0_1).bind fun t258=>(if t258=true then (spec_DecodeMsr.j0 k l1 (decide ((l1.length:Int) < a0_1)) a0_0 a0_1) else (spec_DecodeMsr.j0 k l1 true a0_0 a0_1))
theorem spec_DecodeMsr.mono_l:∀ k,(∀ y0 y1 y2 y3,LeO (spec_DecodeMsr.j0 k y0 y1 y2 y3) (spec_DecodeMsr.j0 (k+1) y0 y1 y2 y3))∧(∀ y0 y1 y2 y3 y4 y5 y6 y7,LeO (spec_DecodeMsr.l0 k y0 y1 y2 y3 y4 y5 y6 y7) (spec_DecodeMsr.l0 (k+1) y0 y1 y2 y3 y4 y5 y6 y7))∧(∀ y0 y1 y2 y3 y4 y5 y6 y7 y8 y9 y10 y11,LeO (spec_DecodeMsr.j2 k y0 y1 y2 y3 y4 y5 y6 y7 y8 y9 y10 y11) (spec_DecodeMsr.j2 (k+1) y0 y1 y2 y3 y4 y5 y6 y7 y8 y9 y10 y11))
 | 0=>⟨fun _ _ _ _ r h=>by simp [spec_DecodeMsr.j0] at h,fun _ _ _ _ _ _ _ _ r h=>by simp [spec_DecodeMsr.l0] at h,fun _ _ _ _ _ _ _ _ _ _ _ _ r h=>by simp [spec_DecodeMsr.j2] at h⟩
 | k+1=>by
  obtain ⟨ih0,ih1,ih2⟩:=spec_DecodeMsr.mono_l k
  refine ⟨?_,?_,?_⟩
  ·intro y0 y1 y2 y3
   unfold spec_DecodeMsr.j0
   repeat' first
   | (with_reducible exact ih0 _ _ _ _)
   | (with_reducible exact ih1 _ _ _ _ _ _ _ _)
   | (with_reducible exact ih2 _ _ _ _ _ _ _ _ _ _ _ _)
   | (with_reducible exact spec_l2Apply.mono _ _ _)
   | (with_reducible exact spec_l5Unknowns.mono _ _ _ _)
   |(with_reducible exact LeO.refl _)|(with_reducible exact LeO.none _)|(with_reducible refine LeO.ite ?_ ?_)|(with_reducible refine LeO.bind ?_ (fun _=>?_))|exact ih0 _ _ _ _|exact ih1 _ _ _ _ _ _ _ _|exact ih2 _ _ _ _ _ _ _ _ _ _ _ _|exact spec_l2Apply.mono _ _ _|exact spec_l5Unknowns.mono _ _ _ _|exact LeO.none _|refine LeO.ite ?_ ?_|refine LeO.bind ?_ (fun _=>?_)
  ·intro y0 y1 y2 y3 y4 y5 y6 y7
   unfold spec_DecodeMsr.l0
   repeat' first
   | (with_reducible exact ih0 _ _ _ _)
   | (with_reducible exact ih1 _ _ _ _ _ _ _ _)
   | (with_reducible exact ih2 _ _ _ _ _ _ _ _ _ _ _ _)
   | (with_reducible exact spec_l2Apply.mono _ _ _)
   | (with_reducible exact spec_l5Unknowns.mono _ _ _ _)
   |(with_reducible exact LeO.refl _)|(with_reducible exact LeO.none _)|(with_reducible refine LeO.ite ?_ ?_)|(with_reducible refine LeO.bind ?_ (fun _=>?_))|exact ih0 _ _ _ _|exact ih1 _ _ _ _ _ _ _ _|exact ih2 _ _ _ _ _ _ _ _ _ _ _ _|exact spec_l2Apply.mono _ _ _|exact spec_l5Unknowns.mono _ _ _ _|exact LeO.none _|refine LeO.ite ?_ ?_|refine LeO.bind ?_ (fun _=>?_)
  intro y0 y1 y2 y3 y4 y5 y6 y7 y8 y9 y10 y11
  unfold spec_DecodeMsr.j2
  repeat' first
  | (with_reducible exact ih0 _ _ _ _)
  | (with_reducible exact ih1 _ _ _ _ _ _ _ _)
  | (with_reducible exact ih2 _ _ _ _ _ _ _ _ _ _ _ _)
  | (with_reducible exact spec_l2Apply.mono _ _ _)
  | (with_reducible exact spec_l5Unknowns.mono _ _ _ _)
  |(with_reducible exact LeO.refl _)|(with_reducible exact LeO.none _)|(with_reducible refine LeO.ite ?_ ?_)|(with_reducible refine LeO.bind ?_ (fun _=>?_))|exact ih0 _ _ _ _|exact ih1 _ _ _ _ _ _ _ _|exact ih2 _ _ _ _ _ _ _ _ _ _ _ _|exact spec_l2Apply.mono _ _ _|exact spec_l5Unknowns.mono _ _ _ _|exact LeO.none _|refine LeO.ite ?_ ?_|refine LeO.bind ?_ (fun _=>?_)
theorem spec_DecodeMsr.mono:∀ a0 a1 a2 k,LeO (spec_DecodeMsr.f k a0 a1 a2) (spec_DecodeMsr.f (k+1) a0 a1 a2):=by
 intro a0 a1 a2 k
 obtain ⟨ih0,ih1,ih2⟩:=spec_DecodeMsr.mono_l k
 unfold spec_DecodeMsr.f
 repeat' first
   | (with_reducible exact ih0 _ _ _ _)
   | (with_reducible exact ih1 _ _ _ _ _ _ _ _)
   | (with_reducible exact ih2 _ _ _ _ _ _ _ _ _ _ _ _)
   | (with_reducible exact spec_l2Apply.mono _ _ _)
   | (with_reducible exact spec_l5Unknowns.mono _ _ _ _)
   |(with_reducible exact LeO.refl _)|(with_reducible exact LeO.none _)|(with_reducible refine LeO.ite ?_ ?_)|(with_reducible refine LeO.bind ?_ (fun _=>?_))|exact ih0 _ _ _ _|exact ih1 _ _ _ _ _ _ _ _|exact ih2 _ _ _ _ _ _ _ _ _ _ _ _|exact spec_l2Apply.mono _ _ _|exact spec_l5Unknowns.mono _ _ _ _|exact LeO.none _|refine LeO.ite ?_ ?_|refine LeO.bind ?_ (fun _=>?_)
def spec_DecodeMsr.T8:Bool × List (List Nat × List Nat):=(true,[([],[]),([],[]),([0,1],[0,1]),([2],[2]),([3,2],[3]),([4],[4]),([5,4],[4,5]),([6,4,4],[4,6]),([7],[7]),([7],[7]),([9,7],[7,9]),([8,10,7],[7,8,10]),([11,7],[7,11]),([12,7],[7,12]),([7],[7]),([14,7],[7,14]),([13,15,7],[7,13,15]),([7,16,4],[4,7,16]),([4,17],[4,17])])
def spec_DecodeMsr.B8:List Nat:=[0,0,3,7,15,31,63,127,255,255,767,2047,4095,8191,255,16639,65535,131071,262143]
theorem spec_DecodeMsr.tab8:rtab .any (opsOf Try.f68 8)=spec_DecodeMsr.T8:=by kernel_rfl
theorem spec_DecodeMsr.bits8:waitsOk spec_DecodeMsr.T8.2 spec_DecodeMsr.B8=true:=by kernel_rfl
def spec_DecodeMsr.T11:Bool × List (List Nat × List Nat):=(true,[([],[]),([0],[0]),([],[]),([],[]),([3],[3]),([2,4],[2,4]),([1,5,5],[1,5]),([0,1,2,3,4,5,6],[]),([7,6,6,0,1,2,3,4,5,6],[6,7])])
def spec_DecodeMsr.B11:List Nat:=[0,1,0,0,8,28,63,127,255]
theorem spec_DecodeMsr.tab11:rtab .any (opsOf Try.f68 11)=spec_DecodeMsr.T11:=by kernel_rfl
theorem spec_DecodeMsr.bits11:waitsOk spec_DecodeMsr.T11.2 spec_DecodeMsr.B11=true:=by kernel_rfl
theorem spec_DecodeMsr.calls (k:Nat) (a0_0:Int) (a0_1:Int) (A1:Option Addr) (c1:Nat) (l1:List (S69)) (r1:List Int) (r2:Bool) (w:World) (hr1:Kd.C k69 w A1 l1.length l1) (hc1:l1.length≤c1) (h:spec_DecodeMsr.f k a0_0 a0_1 l1=some (r1,r2)) :
  Calls Try.prog 68 #[.agg #[.int .i64 a0_0, .int .i64 a0_1], .slice A1 l1.length c1] w fun e w'=>∃ v0_:Value,e = .returned (.tuple #[v0_, .bool r2])∧Kd.R (Kd.int .u8) 5 w' w.heap.size (fun _=>True) v0_ r1∧Below w.heap.size w w':=by
 have hu72:=Try.underlying72
 have hu43:=Try.underlying43
 have hu69:=Try.underlying69
 have HR1:=am hr1
 have HC1:=am hc1
 clear hr1 hc1
 have HB:=am (Below.refl w.heap.size w)
 have H:((spec_GoodMsr.f a0_0 a0_1).bind fun t258=>(if t258=true then (spec_DecodeMsr.j0 k l1 (decide ((l1.length:Int) < a0_1)) a0_0 a0_1) else (spec_DecodeMsr.j0 k l1 true a0_0 a0_1)))=some (r1,r2):=h
 clear h
 have HC3:=am H
 clear H
 go_enter Try.func68,Try.ntmps68
 go_upto_region 1 with (first|((with_reducible refine gate_dst (N:=2) rfl ?_);(try (refine gate_guard d18 ?_;dsimp only));refine box_event ?hg (N:=2) ?hd (cs:=#[.int .i64 a0_0, .int .i64 a0_1]) (t:=72) ?hr ?_;(case hd=>rfl);(case hg=>rfl);(case hr=>first|(go_simp;done)|(go_simp;rfl));intro gb257 hg w4 hbox hb;have n0_:=am (pu d0 hb);have n1_:=am (hbox);have n2_:=am ((by rw [hg];exact (pz d0):w.heap.size≤gb257));have n3_:=n2_;clear HB;have HB:=n0_;have BK257:=n1_;have GW257:=n2_;have GE257:=n3_;clear n0_ n1_ n2_ n3_;clear hb hbox hg))
 (try simp only [Act.put,q1,q2,q3])
 go_cut [21] (fun v21 wc=>∃ (kq:Nat) (x21_2:Bool),v21 = .bool x21_2∧Aside0 (spec_DecodeMsr.j0 kq l1 x21_2 a0_0 a0_1=some (r1,r2))∧Aside0 (kq≤k)∧Aside0 (wc.heap[gb257]? = some (.cells #[.int .i64 a0_0, .int .i64 a0_1] 72 (0,0)))∧Aside0 (Below w.heap.size w wc))
 case first =>
  have H:=HC3.out
  clear HC3
  replace H:=Option.bind_eq_some_iff.mp H
  obtain ⟨t258,A50,H⟩:=H
  replace H:(if t258=true then (spec_DecodeMsr.j0 k l1 (decide ((l1.length:Int) < a0_1)) a0_0 a0_1) else (spec_DecodeMsr.j0 k l1 true a0_0 a0_1))=some (r1,r2):=H
  have A5:=am A50
  clear A50
  by_cases c6:t258=true
  ·subst c6
   have H1:(spec_DecodeMsr.j0 k l1 (decide ((l1.length:Int) < a0_1)) a0_0 a0_1)=some (r1,r2):=by rw [if_pos rfl] at H;exact H
   clear H
   have H:=H1
   clear H1
   have H':=am H
   clear H
   have hcz7_0:w4.cell? ⟨gb257,0,none⟩=some (.int .i64 a0_0):=(blk_cell BK257.out 0).trans rfl
   have hcz7_1:w4.cell? ⟨gb257,1,none⟩=some (.int .i64 a0_1):=(blk_cell BK257.out 1).trans rfl
   have hfz7_0:=blk_frozen BK257.out 0
   have hfz7_1:=blk_frozen BK257.out 1
   go_wp2_with (first|((with_reducible refine gate_callee (f:=120) rfl ?_);refine goesL_ (some 13) rfl rfl Try.func120 d3 rfl #[.agg #[.int .i64 a0_0, .int .i64 a0_1]] rfl d5 ?_;(with_reducible refine (spec_GoodMsr.calls a0_0 a0_1 true _ A5.out).mono ?_);rintro e w8 ⟨rfl,hb⟩;refine ⟨_,rfl,?_⟩;have n0_:=am (qb (g:=gb257) (o:=.cells #[.int .i64 a0_0, .int .i64 a0_1] 72 (0,0)) (by (with_reducible repeat (first|refine qn ?_ _|refine qd ?_|refine qa ?_ _));exact BK257.out) hb);have n1_:=am (pu (by repeat (first|(with_reducible first|exact HB.out|apply pa|apply pb|apply pd|refine pt ?_ GE257.out)|exact HB.out)) hb);clear BK257;clear HB;have BK257:=n0_;have HB:=n1_;clear n0_ n1_;(try clear hb);(try clear hb2);(try clear hk);(try clear hi);have hcz9_0:w8.cell? ⟨gb257,0,none⟩=some (.int .i64 a0_0):=(blk_cell BK257.out 0).trans rfl;have hcz9_1:w8.cell? ⟨gb257,1,none⟩=some (.int .i64 a0_1):=(blk_cell BK257.out 1).trans rfl;have hfz9_0:=blk_frozen BK257.out 0;have hfz9_1:=blk_frozen BK257.out 1))
   go_meet
   case rel=>exact ⟨_,(decide ((l1.length:Int) < a0_1)),d2,H',⟨d64⟩,⟨by (with_reducible repeat (first|refine qn ?_ _|refine qd ?_|refine qa ?_ _));exact BK257.out⟩,⟨by repeat (first|(with_reducible first|exact HB.out|apply pa|apply pb|apply pd|refine pt ?_ GE257.out)|exact HB.out)⟩⟩
  replace c6:=Bool.eq_false_iff.mpr c6
  subst c6
  have H1:(spec_DecodeMsr.j0 k l1 true a0_0 a0_1)=some (r1,r2):=by rw [if_neg (show ¬ (false=true) by decide)] at H;exact H
  clear H
  have H:=H1
  clear H1
  have H':=am H
  clear H
  have hcz10_0:w4.cell? ⟨gb257,0,none⟩=some (.int .i64 a0_0):=(blk_cell BK257.out 0).trans rfl
  have hcz10_1:w4.cell? ⟨gb257,1,none⟩=some (.int .i64 a0_1):=(blk_cell BK257.out 1).trans rfl
  have hfz10_0:=blk_frozen BK257.out 0
  have hfz10_1:=blk_frozen BK257.out 1
  go_wp2_with (first|((with_reducible refine gate_callee (f:=120) rfl ?_);refine goesL_ (some 13) rfl rfl Try.func120 d3 rfl #[.agg #[.int .i64 a0_0, .int .i64 a0_1]] rfl d5 ?_;(with_reducible refine (spec_GoodMsr.calls a0_0 a0_1 false _ A5.out).mono ?_);rintro e w11 ⟨rfl,hb⟩;refine ⟨_,rfl,?_⟩;have n0_:=am (qb (g:=gb257) (o:=.cells #[.int .i64 a0_0, .int .i64 a0_1] 72 (0,0)) (by (with_reducible repeat (first|refine qn ?_ _|refine qd ?_|refine qa ?_ _));exact BK257.out) hb);have n1_:=am (pu (by repeat (first|(with_reducible first|exact HB.out|apply pa|apply pb|apply pd|refine pt ?_ GE257.out)|exact HB.out)) hb);clear BK257;clear HB;have BK257:=n0_;have HB:=n1_;clear n0_ n1_;(try clear hb);(try clear hb2);(try clear hk);(try clear hi)))
  go_meet
  case rel=>exact ⟨_,(true),d2,H',⟨d64⟩,⟨by (with_reducible repeat (first|refine qn ?_ _|refine qd ?_|refine qa ?_ _));exact BK257.out⟩,⟨by repeat (first|(with_reducible first|exact HB.out|apply pa|apply pb|apply pd|refine pt ?_ GE257.out)|exact HB.out)⟩⟩
 case rest =>
  clear HC3
  try clear c1
  try clear p2
  try clear c6
  try clear hcz10_0
  try clear hcz10_1
  try clear hcz7_0
  try clear hcz7_1
  try clear hcz9_0
  try clear hcz9_1
  try clear hfz10_0
  try clear hfz10_1
  try clear hfz7_0
  try clear hfz7_1
  try clear hfz9_0
  try clear hfz9_1
  obtain ⟨kq,x21_2,rfl,HA,HJ2,BK257,HB⟩:=hcut
  cases kq with
  | zero=>exact absurd HA.out (by simp [spec_DecodeMsr.j0])
  | succ kj2 =>
   have H:=HA.out
   clear HA
   simp only [spec_DecodeMsr.j0] at H
   by_cases c12:x21_2=true
   ·subst c12
    have H1:(some (([]:List Int),false))=some (r1,r2):=by rw [if_pos rfl] at H;exact H
    clear H
    have H:=H1
    clear H1
    simp only [Option.some.injEq,Prod.mk.injEq] at H
    obtain ⟨rfl,rfl⟩:=H
    go_wp2
    go_ret2
    exact ⟨_,d4,d16,by repeat (first|(with_reducible first|exact HB.out|apply pa|apply pb|apply pd|refine pt ?_ GE257.out)|exact HB.out)⟩
   replace c12:=Bool.eq_false_iff.mpr c12
   subst c12
   have H1:(spec_DecodeMsr.l0 kj2 l1 ([]:List Int) l1 (l1.length:Int) 0 a0_0 a0_1 ([]:List (List Int)))=some (r1,r2):=by rw [if_neg (show ¬ (false=true) by decide)] at H;exact H
   clear H
   have H:=H1
   clear H1
   have H':=am H
   clear H
   go_wp2_with (first|((with_reducible refine gate_dst (N:=6) rfl ?_);(try (refine gate_guard d18 ?_;dsimp only));refine box_event ?hg (N:=6) ?hd (cs:=#[.slice none 0 0]) (t:=43) ?hr ?_;(case hd=>rfl);(case hg=>rfl);(case hr=>first|(go_simp;done)|(go_simp;rfl));intro gb259 hg w13 hbox hb;have n0_:=am (qb (g:=gb257) (o:=.cells #[.int .i64 a0_0, .int .i64 a0_1] 72 (0,0)) (by (with_reducible repeat (first|refine qn ?_ _|refine qd ?_|refine qa ?_ _));exact BK257.out) hb);have n1_:=am (pu (by repeat (first|(with_reducible first|exact HB.out|apply pa|apply pb|apply pd|refine pt ?_ GE257.out)|exact HB.out)) hb);have n2_:=am (hbox);have n3_:=am ((by rw [hg];exact (pz (by repeat (first|(with_reducible first|exact HB.out|apply pa|apply pb|apply pd|refine pt ?_ GE257.out)|exact HB.out))):w.heap.size≤gb259));have n4_:=n3_;have n5_:=am ((by rw [hg];exact Nat.ne_of_lt (blk_lt (g:=gb257) (o:=.cells #[.int .i64 a0_0, .int .i64 a0_1] 72 (0,0)) (by (with_reducible repeat (first|refine qn ?_ _|refine qd ?_|refine qa ?_ _));exact BK257.out)):gb257 ≠ gb259));have n6_:=am ((by rw [hg];exact Nat.ne_of_gt (blk_lt (g:=gb257) (o:=.cells #[.int .i64 a0_0, .int .i64 a0_1] 72 (0,0)) (by (with_reducible repeat (first|refine qn ?_ _|refine qd ?_|refine qa ?_ _));exact BK257.out)):gb259 ≠ gb257));clear BK257;clear HB;have BK257:=n0_;have HB:=n1_;have BK259:=n2_;have GW259:=n3_;have GE259:=n4_;have NB257_259:=n5_;have NB259_257:=n6_;clear n0_ n1_ n2_ n3_ n4_ n5_ n6_;clear hb hbox hg;have hnb14:=NB259_257.out;have hnc14:=NB257_259.out;have hcz15_0:w13.cell? ⟨gb259,0,none⟩=some (.slice none 0 0):=(blk_cell BK259.out 0).trans rfl;have hfz15_0:=blk_frozen BK259.out 0))
   go_loopg [7,25] kj2 (fun kq v7 v25 w'=>∃ (x7_2:List Int) (x25_2:Int) (x260000_2:List (List Int)) (u260000:Value),v25 = .int .i64 x25_2∧Aside0 (spec_DecodeMsr.l0 kq l1 x7_2 l1 (l1.length:Int) x25_2 a0_0 a0_1 x260000_2=some (r1,r2))∧Aside0 (kq≤kj2)∧Aside0 (Kd.R (Kd.int .u8) 5 w' w.heap.size (fun _=>True) v7 x7_2)∧Aside0 (Kd.N (Kd.slice 5 (Kd.int .u8)) 57 w' w.heap.size (fun k_=>some k_ ≠ (v7:Value).ownBlock∧k_ ≠ gb257∧k_ ≠ gb259) u260000 x260000_2)∧Aside0 (w'.heap[gb257]? = some (.cells #[.int .i64 a0_0, .int .i64 a0_1] 72 (0,0)))∧Aside0 (w'.heap[gb259]? = some (.cells #[u260000] 43 (0,0)))∧Aside0 (Below w.heap.size w w'))
   case atStart=>exact ⟨(([]:List Int)),(0),(([]:List (List Int))),(.slice none 0 0),d2,H',⟨Nat.le_refl _⟩,⟨d16⟩,⟨d51⟩,⟨by (with_reducible repeat (first|refine qn ?_ _|refine qd ?_|refine qa ?_ _));refine blk_far ?_ NB257_259.out _;(with_reducible repeat (first|refine qn ?_ _|refine qd ?_|refine qa ?_ _));exact BK257.out⟩,⟨by (with_reducible repeat (first|refine qn ?_ _|refine qd ?_|refine qa ?_ _));refine blk_put (cs:=#[.slice none 0 0]) ?_ 0 _ rfl;(with_reducible repeat (first|refine qn ?_ _|refine qd ?_|refine qa ?_ _));exact BK259.out⟩,⟨by repeat (first|(with_reducible first|exact HB.out|apply pa|apply pb|apply pd|refine pt ?_ GE257.out|refine pt ?_ GE259.out)|exact HB.out)⟩⟩
   case round =>
    clear H'
    try clear c1
    try clear p2
    try clear c6
    try clear c12
    try clear c14
    try clear hcz10_0
    try clear hcz10_1
    try clear hcz15_0
    try clear hcz7_0
    try clear hcz7_1
    try clear hcz9_0
    try clear hcz9_1
    try clear hfz10_0
    try clear hfz10_1
    try clear hfz15_0
    try clear hfz7_0
    try clear hfz7_1
    try clear hfz9_0
    try clear hfz9_1
    try clear p2
    obtain ⟨x7_2,x25_2,x260000_2,u260000,rfl,HA,HK2,HO_7,HO_260000,BK257,BK259,HB⟩:=hrel
    cases gk with
    | zero=>exact absurd HA.out (by simp [spec_DecodeMsr.l0])
    | succ k2 =>
     have H:=HA.out
     clear HA
     simp only [spec_DecodeMsr.l0] at H
     by_cases c16:x25_2 < (l1.length:Int)
     ·rw [if_pos c16] at H
      have c16b0:decide (x25_2 < (l1.length:Int))=true:=decide_eq_true c16
      clear c16
      by_cases c17:0≤x25_2
      ·rw [if_pos c17] at H
       have c17b0:decide (0≤x25_2)=true:=decide_eq_true c17
       clear c17
       by_cases c18:x25_2 < (l1.length:Int)
       ·rw [if_pos c18] at H
        have c18b0:decide (x25_2 < (l1.length:Int))=true:=decide_eq_true c18
        clear c18
        have HC19:=am H
        clear H
        have p260:0≤(x25_2:Int):=od d1
        have q260:x25_2 < (l1.length:Int):=od d1
        obtain ⟨ad260,A260_1,c260_1,e260,hx260_0,hx260_1,hl260_1,hi260_1⟩:=at_T69 HR1.out x25_2 p260 q260
        cases e260
        replace hx260_0:=(HB.out.cell (World.block_lt_of_cell? w _ hx260_0)).trans hx260_0
        replace hx260_1:=(HB.out.cell (World.block_lt_of_cell? w _ hx260_1)).trans hx260_1
        have HR260_1:=am hi260_1
        have HC260_1:=am hl260_1
        clear hi260_1 hl260_1
        replace p260:=eq_true p260
        replace q260:=eq_true q260
        go_upto_region 8 with (first|((with_reducible refine gate_dst (N:=9) rfl ?_);(try (refine gate_guard d18 ?_;dsimp only));refine box_event ?hg (N:=9) ?hd (cs:=#[.int .i64 0, .slice none 0 0]) (t:=69) ?hr ?_;(case hd=>rfl);(case hg=>rfl);(case hr=>first|(go_simp;done)|(go_simp;rfl));intro gb261 hg w20 hbox hb;have n0_:=am (Kd.R_below d13 hb);have n1_:=am (Kd.N_below (Kd.N_elderB d15 gb261 (Nat.le_of_eq hg.symm)) hb);have n2_:=am (qb (g:=gb257) (o:=.cells #[.int .i64 a0_0, .int .i64 a0_1] 72 (0,0)) (by (with_reducible repeat (first|refine qn ?_ _|refine qd ?_|refine qa ?_ _));exact BK257.out) hb);have n3_:=am (qb (g:=gb259) (o:=.cells #[u260000] 43 (0,0)) (by (with_reducible repeat (first|refine qn ?_ _|refine qd ?_|refine qa ?_ _));exact BK259.out) hb);have n4_:=am (pu (by repeat (first|(with_reducible first|exact HB.out|apply pa|apply pb|apply pd|refine pt ?_ GE257.out|refine pt ?_ GE259.out)|exact HB.out)) hb);have n5_:=am (hbox);have n6_:=am ((by rw [hg];exact (pz (by repeat (first|(with_reducible first|exact HB.out|apply pa|apply pb|apply pd|refine pt ?_ GE257.out|refine pt ?_ GE259.out)|exact HB.out))):w.heap.size≤gb261));have n7_:=n6_;have n8_:=am ((by rw [hg];exact Nat.ne_of_lt (blk_lt (g:=gb257) (o:=.cells #[.int .i64 a0_0, .int .i64 a0_1] 72 (0,0)) (by (with_reducible repeat (first|refine qn ?_ _|refine qd ?_|refine qa ?_ _));exact BK257.out)):gb257 ≠ gb261));have n9_:=am ((by rw [hg];exact Nat.ne_of_gt (blk_lt (g:=gb257) (o:=.cells #[.int .i64 a0_0, .int .i64 a0_1] 72 (0,0)) (by (with_reducible repeat (first|refine qn ?_ _|refine qd ?_|refine qa ?_ _));exact BK257.out)):gb261 ≠ gb257));have n10_:=am ((by rw [hg];exact Nat.ne_of_lt (blk_lt (g:=gb259) (o:=.cells #[u260000] 43 (0,0)) (by (with_reducible repeat (first|refine qn ?_ _|refine qd ?_|refine qa ?_ _));exact BK259.out)):gb259 ≠ gb261));have n11_:=am ((by rw [hg];exact Nat.ne_of_gt (blk_lt (g:=gb259) (o:=.cells #[u260000] 43 (0,0)) (by (with_reducible repeat (first|refine qn ?_ _|refine qd ?_|refine qa ?_ _));exact BK259.out)):gb261 ≠ gb259));clear HO_7;clear HO_260000;clear BK257;clear BK259;clear HB;have HO_7:=n0_;have HO_260000:=n1_;have BK257:=n2_;have BK259:=n3_;have HB:=n4_;have BK261:=n5_;have GW261:=n6_;have GE261:=n7_;have NB257_261:=n8_;have NB261_257:=n9_;have NB259_261:=n10_;have NB261_259:=n11_;clear n0_ n1_ n2_ n3_ n4_ n5_ n6_ n7_ n8_ n9_ n10_ n11_;clear hb hbox hg;have hnb21:=NB261_257.out;have hnc21:=NB257_261.out;have hnb22:=NB261_259.out;have hnc22:=NB259_261.out;have hcz23_0:w20.cell? ⟨gb261,0,none⟩=some (.int .i64 0):=(blk_cell BK261.out 0).trans rfl;have hcz23_1:w20.cell? ⟨gb261,1,none⟩=some (.slice none 0 0):=(blk_cell BK261.out 1).trans rfl;have hfz23_0:=blk_frozen BK261.out 0;have hfz23_1:=blk_frozen BK261.out 1))
        (try simp only [Act.put,q1,q2,q3])
        go_cut [48] (fun v48 wc=>∃ (kq:Nat) (x48_18:Bool),v48 = .bool x48_18∧Aside0 (spec_DecodeMsr.j2 kq l1 x7_2 x25_2 l1 (l1.length:Int) x25_2 x48_18 a0_0 a0_1 x260000_2 ((rd_T69 l1 x25_2).f0) ((rd_T69 l1 x25_2).f1)=some (r1,r2))∧Aside0 (kq≤k2)∧Aside0 (Kd.R (Kd.int .u8) 5 wc w.heap.size (fun _=>True) u7 x7_2)∧Aside0 (Kd.N (Kd.slice 5 (Kd.int .u8)) 57 wc w.heap.size (fun k_=>some k_ ≠ (u7:Value).ownBlock∧k_ ≠ gb257∧k_ ≠ gb259∧k_ ≠ gb261) u260000 x260000_2)∧Aside0 (wc.heap[gb257]? = some (.cells #[.int .i64 a0_0, .int .i64 a0_1] 72 (0,0)))∧Aside0 (wc.heap[gb259]? = some (.cells #[u260000] 43 (0,0)))∧Aside0 (wc.heap[gb261]? = some (.cells #[.int .i64 ((rd_T69 l1 x25_2).f0),(.slice A260_1 ((rd_T69 l1 x25_2).f1).length c260_1)] 69 (0,0)))∧Aside0 (Below w.heap.size w wc))
        case first =>
         have H:=HC19.out
         clear HC19
         replace H:=Option.bind_eq_some_iff.mp H
         obtain ⟨t262,A240,H⟩:=H
         replace H:(if t262=true then (if x25_2 > 0 then (if 0≤(wrap64 (x25_2 - 1)) then (if (wrap64 (x25_2 - 1)) < (l1.length:Int) then (spec_DecodeMsr.j2 k2 l1 x7_2 x25_2 l1 (l1.length:Int) x25_2 (decide (((rd_T69 l1 (wrap64 (x25_2 - 1))).f0) ≥ ((rd_T69 l1 x25_2).f0))) a0_0 a0_1 x260000_2 ((rd_T69 l1 x25_2).f0) ((rd_T69 l1 x25_2).f1)) else (none)) else (none)) else (spec_DecodeMsr.j2 k2 l1 x7_2 x25_2 l1 (l1.length:Int) x25_2 false a0_0 a0_1 x260000_2 ((rd_T69 l1 x25_2).f0) ((rd_T69 l1 x25_2).f1))) else (spec_DecodeMsr.j2 k2 l1 x7_2 x25_2 l1 (l1.length:Int) x25_2 true a0_0 a0_1 x260000_2 ((rd_T69 l1 x25_2).f0) ((rd_T69 l1 x25_2).f1)))=some (r1,r2):=H
         have A24:=am A240
         clear A240
         by_cases c25:t262=true
         ·subst c25
          have H1:(if x25_2 > 0 then (if 0≤(wrap64 (x25_2 - 1)) then (if (wrap64 (x25_2 - 1)) < (l1.length:Int) then (spec_DecodeMsr.j2 k2 l1 x7_2 x25_2 l1 (l1.length:Int) x25_2 (decide (((rd_T69 l1 (wrap64 (x25_2 - 1))).f0) ≥ ((rd_T69 l1 x25_2).f0))) a0_0 a0_1 x260000_2 ((rd_T69 l1 x25_2).f0) ((rd_T69 l1 x25_2).f1)) else (none)) else (none)) else (spec_DecodeMsr.j2 k2 l1 x7_2 x25_2 l1 (l1.length:Int) x25_2 false a0_0 a0_1 x260000_2 ((rd_T69 l1 x25_2).f0) ((rd_T69 l1 x25_2).f1)))=some (r1,r2):=by rw [if_pos rfl] at H;exact H
          clear H
          have H:=H1
          clear H1
          by_cases c26:x25_2 > 0
          ·rw [if_pos c26] at H
           have c26b0:decide (0 < x25_2)=true:=decide_eq_true c26
           clear c26
           (first|rw [c26b0]|(simp only [i64_w,i32_w];rw [c26b0])|skip)
           obtain ⟨ji27,hji27⟩:∃ j_:Int,(wrap64 (x25_2 - 1))=j_:=⟨_,rfl⟩
           replace H:(if 0≤(ji27) then (if (ji27) < (l1.length:Int) then (spec_DecodeMsr.j2 k2 l1 x7_2 x25_2 l1 (l1.length:Int) x25_2 (decide (((rd_T69 l1 (ji27)).f0) ≥ ((rd_T69 l1 x25_2).f0))) a0_0 a0_1 x260000_2 ((rd_T69 l1 x25_2).f0) ((rd_T69 l1 x25_2).f1)) else (none)) else (none))=some (r1,r2):=by first|(rw [hji27] at H;exact H)|(simp only [hji27] at H ⊢;exact H)
           (try rw [hji27] at A24)
           have hji27w:(IntKind.i64.wrap (x25_2 - 1))=ji27:=(i64_w _).trans hji27
           by_cases c28:0≤(ji27)
           ·rw [if_pos c28] at H
            have c28b0:decide (0≤(ji27))=true:=decide_eq_true c28
            clear c28
            by_cases c29:(ji27) < (l1.length:Int)
            ·rw [if_pos c29] at H
             have c29b0:decide ((ji27) < (l1.length:Int))=true:=decide_eq_true c29
             clear c29
             have H':=am H
             clear H
             try go_wp2
             have n0_:Aside0 (Kd.R (Kd.int .u8) 5 ((w20.setCell ⟨gb261,0,none⟩ (.int .i64 ((rd_T69 l1 x25_2).f0))).setCell ⟨gb261,1,none⟩ (.slice A260_1 ((rd_T69 l1 x25_2).f1).length c260_1)) w.heap.size (fun _=>True) u7 x7_2):=⟨d29⟩
             have n1_:Aside0 (Kd.N (Kd.slice 5 (Kd.int .u8)) 57 ((w20.setCell ⟨gb261,0,none⟩ (.int .i64 ((rd_T69 l1 x25_2).f0))).setCell ⟨gb261,1,none⟩ (.slice A260_1 ((rd_T69 l1 x25_2).f1).length c260_1)) w.heap.size (fun k_=>some k_ ≠ (u7:Value).ownBlock∧k_ ≠ gb257∧k_ ≠ gb259∧k_ ≠ gb261) u260000 x260000_2):=⟨d23⟩
             have n2_:Aside0 (((w20.setCell ⟨gb261,0,none⟩ (.int .i64 ((rd_T69 l1 x25_2).f0))).setCell ⟨gb261,1,none⟩ (.slice A260_1 ((rd_T69 l1 x25_2).f1).length c260_1)).heap[gb257]? = some (.cells #[.int .i64 a0_0, .int .i64 a0_1] 72 (0,0))):=⟨by (with_reducible repeat (first|refine qn ?_ _|refine qd ?_|refine qa ?_ _));refine blk_far ?_ NB257_261.out _;(with_reducible repeat (first|refine qn ?_ _|refine qd ?_|refine qa ?_ _));refine blk_far ?_ NB257_261.out _;(with_reducible repeat (first|refine qn ?_ _|refine qd ?_|refine qa ?_ _));exact BK257.out⟩
             have n3_:Aside0 (((w20.setCell ⟨gb261,0,none⟩ (.int .i64 ((rd_T69 l1 x25_2).f0))).setCell ⟨gb261,1,none⟩ (.slice A260_1 ((rd_T69 l1 x25_2).f1).length c260_1)).heap[gb259]? = some (.cells #[u260000] 43 (0,0))):=⟨by (with_reducible repeat (first|refine qn ?_ _|refine qd ?_|refine qa ?_ _));refine blk_far ?_ NB259_261.out _;(with_reducible repeat (first|refine qn ?_ _|refine qd ?_|refine qa ?_ _));refine blk_far ?_ NB259_261.out _;(with_reducible repeat (first|refine qn ?_ _|refine qd ?_|refine qa ?_ _));exact BK259.out⟩
             have n4_:Aside0 (((w20.setCell ⟨gb261,0,none⟩ (.int .i64 ((rd_T69 l1 x25_2).f0))).setCell ⟨gb261,1,none⟩ (.slice A260_1 ((rd_T69 l1 x25_2).f1).length c260_1)).heap[gb261]? = some (.cells #[.int .i64 ((rd_T69 l1 x25_2).f0), .slice A260_1 ((rd_T69 l1 x25_2).f1).length c260_1] 69 (0,0))):=⟨by (with_reducible repeat (first|refine qn ?_ _|refine qd ?_|refine qa ?_ _));refine blk_put (cs:=#[.int .i64 ((rd_T69 l1 x25_2).f0), .slice none 0 0]) ?_ 1 _ rfl;(with_reducible repeat (first|refine qn ?_ _|refine qd ?_|refine qa ?_ _));refine blk_put (cs:=#[.int .i64 0, .slice none 0 0]) ?_ 0 _ rfl;(with_reducible repeat (first|refine qn ?_ _|refine qd ?_|refine qa ?_ _));exact BK261.out⟩
             have n5_:Aside0 (Below w.heap.size w ((w20.setCell ⟨gb261,0,none⟩ (.int .i64 ((rd_T69 l1 x25_2).f0))).setCell ⟨gb261,1,none⟩ (.slice A260_1 ((rd_T69 l1 x25_2).f1).length c260_1))):=⟨by repeat (first|(with_reducible first|exact HB.out|apply pa|apply pb|apply pd|refine pt ?_ GE257.out|refine pt ?_ GE259.out|refine pt ?_ GE261.out)|exact HB.out)⟩
             (try clear HO_7)
             (try clear HO_260000)
             (try clear BK257)
             (try clear BK259)
             (try clear BK261)
             (try clear HB)
             generalize ((w20.setCell ⟨gb261,0,none⟩ (.int .i64 ((rd_T69 l1 x25_2).f0))).setCell ⟨gb261,1,none⟩ (.slice A260_1 ((rd_T69 l1 x25_2).f1).length c260_1))=w30 at n0_ n1_ n2_ n3_ n4_ n5_ ⊢
             have HO_7:=n0_
             have HO_260000:=n1_
             have BK257:=n2_
             have BK259:=n3_
             have BK261:=n4_
             have HB:=n5_
             clear n0_ n1_ n2_ n3_ n4_ n5_
             have n0_:=am (Kd.R_drew HO_7.out)
             have n1_:=am (Kd.N_drew HO_260000.out)
             have n2_:=am (qd BK257.out)
             have n3_:=am (qd BK259.out)
             have n4_:=am (qd BK261.out)
             have n5_:=am (pd HB.out)
             clear HO_7
             clear HO_260000
             clear BK257
             clear BK259
             clear BK261
             clear HB
             have HO_7:=n0_
             have HO_260000:=n1_
             have BK257:=n2_
             have BK259:=n3_
             have BK261:=n4_
             have HB:=n5_
             clear n0_ n1_ n2_ n3_ n4_ n5_
             have p263:0≤((ji27):Int):=od d1
             have q263:(ji27) < (l1.length:Int):=od d1
             obtain ⟨ad263,A263_1,c263_1,e263,hx263_0,hx263_1,hl263_1,hi263_1⟩:=at_T69 HR1.out (ji27) p263 q263
             have hw263_1:=hx263_1
             have hw263_0:=hx263_0
             obtain rfl:ad260=ad263:=(by injection e263)
             replace hx263_0:=(HB.out.cell (World.block_lt_of_cell? w _ hx263_0)).trans hx263_0
             replace hx263_1:=(HB.out.cell (World.block_lt_of_cell? w _ hx263_1)).trans hx263_1
             have HR263_1:=am hi263_1
             have HC263_1:=am hl263_1
             clear hi263_1 hl263_1
             replace p263:=eq_true p263
             replace q263:=eq_true q263
             refine rS (n:=19) (S:=fun w'=>w'.cell? ⟨gb257,0,none⟩=some (.int .i64 a0_0)∧w'.cell? ⟨gb257,1,none⟩=some (.int .i64 a0_1)∧w'.cell? ⟨gb261,0,none⟩=some (.int .i64 ((rd_T69 l1 x25_2).f0))∧w'.cell? ⟨gb261,1,none⟩=some (.slice A260_1 ((rd_T69 l1 x25_2).f1).length c260_1)∧w'.cell? (ad260.add (((ji27)).toNat*2))=some (.int .i64 ((rd_T69 l1 (ji27)).f0))∧w'.cell? ⟨(ad260.add (((ji27)).toNat*2)).block,(ad260.add (((ji27)).toNat*2)).off+1,none⟩=some (.slice A263_1 ((rd_T69 l1 (ji27)).f1).length c263_1)) (ds:=[]) [(0,30),(1,31),(2,0),(3,33),(4,34),(5,35),(6,36),(7,37),(8,38),(9,39),(10,40),(11,41),(12,42),(14,44),(13,43),(15,45),(16,46),(17,47),(18,48)] d3 rfl spec_DecodeMsr.tab8 spec_DecodeMsr.bits8 ⟨(blk_cell BK257.out 0).trans rfl,(blk_cell BK257.out 1).trans rfl,(blk_cell BK261.out 0).trans rfl,(blk_cell BK261.out 1).trans rfl,((HB.out.cell (World.block_lt_of_cell? w _ hw263_0)).trans hw263_0),((HB.out.cell (World.block_lt_of_cell? w _ hw263_1)).trans hw263_1)⟩ (fun hHeld HT_ HW_=>?_)
             generalize w30.drew=w31 at HO_7 HO_260000 BK257 BK259 BK261 HB HR263_1 hx263_0 hx263_1 hHeld ⊢
             refine rR ?_
             refine rO (N:=some 32) HT_ rfl rfl d3 d11 (fun K hK=>?_)
             refine goes_ Try.func149 d3 rfl #[.agg #[.int .i64 a0_0, .int .i64 a0_1], .agg #[.int .i64 ((rd_T69 l1 x25_2).f0), .slice A260_1 ((rd_T69 l1 x25_2).f1).length c260_1]] d18 rfl rfl d5 ?_
             with_reducible refine (spec_l5Piece.calls a0_0 a0_1 ((rd_T69 l1 x25_2).f0) _ _ ((rd_T69 l1 x25_2).f1) true _ ?side1 ?side2 A24.out).mono ?_
             (case side1=>repeat (first|exact (Kd.C_below HR260_1.out HB.out)|(with_reducible refine Kd.C_alloc ?_ _)|(with_reducible refine Kd.C_drewN ?_ _)|(with_reducible refine Kd.C_drew ?_)))
             (case side2=>exact HC260_1.out)
             rintro e w32 ⟨rfl,hb⟩
             refine ⟨_,rfl,?_⟩
             have n0_:=am (Kd.R_below d13 hb)
             have n1_:=am (Kd.N_below d15 hb)
             have n2_:=am (qb (g:=gb257) (o:=.cells #[.int .i64 a0_0, .int .i64 a0_1] 72 (0,0)) (by (with_reducible repeat (first|refine qn ?_ _|refine qd ?_|refine qa ?_ _));exact BK257.out) hb)
             have n3_:=am (qb (g:=gb259) (o:=.cells #[u260000] 43 (0,0)) (by (with_reducible repeat (first|refine qn ?_ _|refine qd ?_|refine qa ?_ _));exact BK259.out) hb)
             have n4_:=am (qb (g:=gb261) (o:=.cells #[.int .i64 ((rd_T69 l1 x25_2).f0), .slice A260_1 ((rd_T69 l1 x25_2).f1).length c260_1] 69 (0,0)) (by (with_reducible repeat (first|refine qn ?_ _|refine qd ?_|refine qa ?_ _));exact BK261.out) hb)
             have n5_:=am (pu (by repeat (first|(with_reducible first|exact HB.out|apply pa|apply pb|apply pd|refine pt ?_ GE257.out|refine pt ?_ GE259.out|refine pt ?_ GE261.out)|exact HB.out)) hb)
             clear HO_7
             clear HO_260000
             clear BK257
             clear BK259
             clear BK261
             clear HB
             have HO_7:=n0_
             have HO_260000:=n1_
             have BK257:=n2_
             have BK259:=n3_
             have BK261:=n4_
             have HB:=n5_
             clear n0_ n1_ n2_ n3_ n4_ n5_
             (try clear hb)
             (try clear hb2)
             (try clear hk)
             (try clear hi)
             refine hK.out _ _ ⟨(blk_cell BK257.out 0).trans rfl,(blk_cell BK257.out 1).trans rfl,(blk_cell BK261.out 0).trans rfl,(blk_cell BK261.out 1).trans rfl,((HB.out.cell (World.block_lt_of_cell? w _ hw263_0)).trans hw263_0),((HB.out.cell (World.block_lt_of_cell? w _ hw263_1)).trans hw263_1)⟩ (fun hHeld=>?_)
             clear hK K
             refine rN (a':=?_) ?_ ?_
             rotate_left
             ·show Act.put _ (some 32) _=_
              simp only [Act.put,q1,q2,q3,i64_w,i32_w]
              rfl
             refine rR ?_
             refine rD HT_ d3 ?_
             try go_wp2
             go_meet
             case rel=>exact ⟨_,(decide (((rd_T69 l1 (ji27)).f0) ≥ ((rd_T69 l1 x25_2).f0))),(by first|rfl|(simp;done)|(simp only [← hji27] <;> (first|rfl|simp))|(simp [*];done)),H',⟨d66⟩,⟨d13⟩,⟨d15⟩,⟨by (with_reducible repeat (first|refine qn ?_ _|refine qd ?_|refine qa ?_ _));exact BK257.out⟩,⟨by (with_reducible repeat (first|refine qn ?_ _|refine qd ?_|refine qa ?_ _));exact BK259.out⟩,⟨by (with_reducible repeat (first|refine qn ?_ _|refine qd ?_|refine qa ?_ _));exact BK261.out⟩,⟨by repeat (first|(with_reducible first|exact HB.out|apply pa|apply pb|apply pd|refine pt ?_ GE257.out|refine pt ?_ GE259.out|refine pt ?_ GE261.out)|exact HB.out)⟩⟩
            rw [if_neg c29] at H
            exact absurd H d20
           rw [if_neg c28] at H
           exact absurd H d20
          rw [if_neg c26] at H
          have c26b0:decide (0 < x25_2)=false:=decide_eq_false c26
          clear c26
          (first|rw [c26b0]|(simp only [i64_w,i32_w];rw [c26b0])|skip)
          have H':=am H
          clear H
          try go_wp2
          have n0_:Aside0 (Kd.R (Kd.int .u8) 5 ((w20.setCell ⟨gb261,0,none⟩ (.int .i64 ((rd_T69 l1 x25_2).f0))).setCell ⟨gb261,1,none⟩ (.slice A260_1 ((rd_T69 l1 x25_2).f1).length c260_1)) w.heap.size (fun _=>True) u7 x7_2):=⟨d29⟩
          have n1_:Aside0 (Kd.N (Kd.slice 5 (Kd.int .u8)) 57 ((w20.setCell ⟨gb261,0,none⟩ (.int .i64 ((rd_T69 l1 x25_2).f0))).setCell ⟨gb261,1,none⟩ (.slice A260_1 ((rd_T69 l1 x25_2).f1).length c260_1)) w.heap.size (fun k_=>some k_ ≠ (u7:Value).ownBlock∧k_ ≠ gb257∧k_ ≠ gb259∧k_ ≠ gb261) u260000 x260000_2):=⟨d23⟩
          have n2_:Aside0 (((w20.setCell ⟨gb261,0,none⟩ (.int .i64 ((rd_T69 l1 x25_2).f0))).setCell ⟨gb261,1,none⟩ (.slice A260_1 ((rd_T69 l1 x25_2).f1).length c260_1)).heap[gb257]? = some (.cells #[.int .i64 a0_0, .int .i64 a0_1] 72 (0,0))):=⟨by (with_reducible repeat (first|refine qn ?_ _|refine qd ?_|refine qa ?_ _));refine blk_far ?_ NB257_261.out _;(with_reducible repeat (first|refine qn ?_ _|refine qd ?_|refine qa ?_ _));refine blk_far ?_ NB257_261.out _;(with_reducible repeat (first|refine qn ?_ _|refine qd ?_|refine qa ?_ _));exact BK257.out⟩
          have n3_:Aside0 (((w20.setCell ⟨gb261,0,none⟩ (.int .i64 ((rd_T69 l1 x25_2).f0))).setCell ⟨gb261,1,none⟩ (.slice A260_1 ((rd_T69 l1 x25_2).f1).length c260_1)).heap[gb259]? = some (.cells #[u260000] 43 (0,0))):=⟨by (with_reducible repeat (first|refine qn ?_ _|refine qd ?_|refine qa ?_ _));refine blk_far ?_ NB259_261.out _;(with_reducible repeat (first|refine qn ?_ _|refine qd ?_|refine qa ?_ _));refine blk_far ?_ NB259_261.out _;(with_reducible repeat (first|refine qn ?_ _|refine qd ?_|refine qa ?_ _));exact BK259.out⟩
          have n4_:Aside0 (((w20.setCell ⟨gb261,0,none⟩ (.int .i64 ((rd_T69 l1 x25_2).f0))).setCell ⟨gb261,1,none⟩ (.slice A260_1 ((rd_T69 l1 x25_2).f1).length c260_1)).heap[gb261]? = some (.cells #[.int .i64 ((rd_T69 l1 x25_2).f0), .slice A260_1 ((rd_T69 l1 x25_2).f1).length c260_1] 69 (0,0))):=⟨by (with_reducible repeat (first|refine qn ?_ _|refine qd ?_|refine qa ?_ _));refine blk_put (cs:=#[.int .i64 ((rd_T69 l1 x25_2).f0), .slice none 0 0]) ?_ 1 _ rfl;(with_reducible repeat (first|refine qn ?_ _|refine qd ?_|refine qa ?_ _));refine blk_put (cs:=#[.int .i64 0, .slice none 0 0]) ?_ 0 _ rfl;(with_reducible repeat (first|refine qn ?_ _|refine qd ?_|refine qa ?_ _));exact BK261.out⟩
          have n5_:Aside0 (Below w.heap.size w ((w20.setCell ⟨gb261,0,none⟩ (.int .i64 ((rd_T69 l1 x25_2).f0))).setCell ⟨gb261,1,none⟩ (.slice A260_1 ((rd_T69 l1 x25_2).f1).length c260_1))):=⟨by repeat (first|(with_reducible first|exact HB.out|apply pa|apply pb|apply pd|refine pt ?_ GE257.out|refine pt ?_ GE259.out|refine pt ?_ GE261.out)|exact HB.out)⟩
          (try clear HO_7)
          (try clear HO_260000)
          (try clear BK257)
          (try clear BK259)
          (try clear BK261)
          (try clear HB)
          generalize ((w20.setCell ⟨gb261,0,none⟩ (.int .i64 ((rd_T69 l1 x25_2).f0))).setCell ⟨gb261,1,none⟩ (.slice A260_1 ((rd_T69 l1 x25_2).f1).length c260_1))=w33 at n0_ n1_ n2_ n3_ n4_ n5_ ⊢
          have HO_7:=n0_
          have HO_260000:=n1_
          have BK257:=n2_
          have BK259:=n3_
          have BK261:=n4_
          have HB:=n5_
          clear n0_ n1_ n2_ n3_ n4_ n5_
          have n0_:=am (Kd.R_drew HO_7.out)
          have n1_:=am (Kd.N_drew HO_260000.out)
          have n2_:=am (qd BK257.out)
          have n3_:=am (qd BK259.out)
          have n4_:=am (qd BK261.out)
          have n5_:=am (pd HB.out)
          clear HO_7
          clear HO_260000
          clear BK257
          clear BK259
          clear BK261
          clear HB
          have HO_7:=n0_
          have HO_260000:=n1_
          have BK257:=n2_
          have BK259:=n3_
          have BK261:=n4_
          have HB:=n5_
          clear n0_ n1_ n2_ n3_ n4_ n5_
          refine rS (n:=19) (S:=fun w'=>w'.cell? ⟨gb257,0,none⟩=some (.int .i64 a0_0)∧w'.cell? ⟨gb257,1,none⟩=some (.int .i64 a0_1)∧w'.cell? ⟨gb261,0,none⟩=some (.int .i64 ((rd_T69 l1 x25_2).f0))∧w'.cell? ⟨gb261,1,none⟩=some (.slice A260_1 ((rd_T69 l1 x25_2).f1).length c260_1)) (ds:=[]) [(0,30),(1,31),(2,0),(3,33),(4,34),(5,35),(6,36),(7,37),(8,38),(9,39),(10,40),(11,41),(12,42),(13,43),(14,44),(15,45),(16,46),(17,47),(18,48)] d3 rfl spec_DecodeMsr.tab8 spec_DecodeMsr.bits8 ⟨(blk_cell BK257.out 0).trans rfl,(blk_cell BK257.out 1).trans rfl,(blk_cell BK261.out 0).trans rfl,(blk_cell BK261.out 1).trans rfl⟩ (fun hHeld HT_ HW_=>?_)
          generalize w33.drew=w34 at HO_7 HO_260000 BK257 BK259 BK261 HB hHeld ⊢
          refine rR ?_
          refine rO (N:=some 32) HT_ rfl rfl d3 d11 (fun K hK=>?_)
          refine goes_ Try.func149 d3 rfl #[.agg #[.int .i64 a0_0, .int .i64 a0_1], .agg #[.int .i64 ((rd_T69 l1 x25_2).f0), .slice A260_1 ((rd_T69 l1 x25_2).f1).length c260_1]] d18 rfl rfl d5 ?_
          with_reducible refine (spec_l5Piece.calls a0_0 a0_1 ((rd_T69 l1 x25_2).f0) _ _ ((rd_T69 l1 x25_2).f1) true _ ?side1 ?side2 A24.out).mono ?_
          (case side1=>repeat (first|exact (Kd.C_below HR260_1.out HB.out)|(with_reducible refine Kd.C_alloc ?_ _)|(with_reducible refine Kd.C_drewN ?_ _)|(with_reducible refine Kd.C_drew ?_)))
          (case side2=>exact HC260_1.out)
          rintro e w35 ⟨rfl,hb⟩
          refine ⟨_,rfl,?_⟩
          have n0_:=am (Kd.R_below d13 hb)
          have n1_:=am (Kd.N_below d15 hb)
          have n2_:=am (qb (g:=gb257) (o:=.cells #[.int .i64 a0_0, .int .i64 a0_1] 72 (0,0)) (by (with_reducible repeat (first|refine qn ?_ _|refine qd ?_|refine qa ?_ _));exact BK257.out) hb)
          have n3_:=am (qb (g:=gb259) (o:=.cells #[u260000] 43 (0,0)) (by (with_reducible repeat (first|refine qn ?_ _|refine qd ?_|refine qa ?_ _));exact BK259.out) hb)
          have n4_:=am (qb (g:=gb261) (o:=.cells #[.int .i64 ((rd_T69 l1 x25_2).f0), .slice A260_1 ((rd_T69 l1 x25_2).f1).length c260_1] 69 (0,0)) (by (with_reducible repeat (first|refine qn ?_ _|refine qd ?_|refine qa ?_ _));exact BK261.out) hb)
          have n5_:=am (pu (by repeat (first|(with_reducible first|exact HB.out|apply pa|apply pb|apply pd|refine pt ?_ GE257.out|refine pt ?_ GE259.out|refine pt ?_ GE261.out)|exact HB.out)) hb)
          clear HO_7
          clear HO_260000
          clear BK257
          clear BK259
          clear BK261
          clear HB
          have HO_7:=n0_
          have HO_260000:=n1_
          have BK257:=n2_
          have BK259:=n3_
          have BK261:=n4_
          have HB:=n5_
          clear n0_ n1_ n2_ n3_ n4_ n5_
          (try clear hb)
          (try clear hb2)
          (try clear hk)
          (try clear hi)
          refine hK.out _ _ ⟨(blk_cell BK257.out 0).trans rfl,(blk_cell BK257.out 1).trans rfl,(blk_cell BK261.out 0).trans rfl,(blk_cell BK261.out 1).trans rfl⟩ (fun hHeld=>?_)
          clear hK K
          refine rN (a':=?_) ?_ ?_
          rotate_left
          ·show Act.put _ (some 32) _=_
           simp only [Act.put,q1,q2,q3,i64_w,i32_w]
           rfl
          refine rR ?_
          refine rD HT_ d3 ?_
          try go_wp2
          go_meet
          case rel=>exact ⟨_,(false),d2,H',⟨d66⟩,⟨d13⟩,⟨d15⟩,⟨by (with_reducible repeat (first|refine qn ?_ _|refine qd ?_|refine qa ?_ _));exact BK257.out⟩,⟨by (with_reducible repeat (first|refine qn ?_ _|refine qd ?_|refine qa ?_ _));exact BK259.out⟩,⟨by (with_reducible repeat (first|refine qn ?_ _|refine qd ?_|refine qa ?_ _));exact BK261.out⟩,⟨by repeat (first|(with_reducible first|exact HB.out|apply pa|apply pb|apply pd|refine pt ?_ GE257.out|refine pt ?_ GE259.out|refine pt ?_ GE261.out)|exact HB.out)⟩⟩
         replace c25:=Bool.eq_false_iff.mpr c25
         subst c25
         have H1:(spec_DecodeMsr.j2 k2 l1 x7_2 x25_2 l1 (l1.length:Int) x25_2 true a0_0 a0_1 x260000_2 ((rd_T69 l1 x25_2).f0) ((rd_T69 l1 x25_2).f1))=some (r1,r2):=by rw [if_neg (show ¬ (false=true) by decide)] at H;exact H
         clear H
         have H:=H1
         clear H1
         have H':=am H
         clear H
         try go_wp2
         have n0_:Aside0 (Kd.R (Kd.int .u8) 5 ((w20.setCell ⟨gb261,0,none⟩ (.int .i64 ((rd_T69 l1 x25_2).f0))).setCell ⟨gb261,1,none⟩ (.slice A260_1 ((rd_T69 l1 x25_2).f1).length c260_1)) w.heap.size (fun _=>True) u7 x7_2):=⟨d29⟩
         have n1_:Aside0 (Kd.N (Kd.slice 5 (Kd.int .u8)) 57 ((w20.setCell ⟨gb261,0,none⟩ (.int .i64 ((rd_T69 l1 x25_2).f0))).setCell ⟨gb261,1,none⟩ (.slice A260_1 ((rd_T69 l1 x25_2).f1).length c260_1)) w.heap.size (fun k_=>some k_ ≠ (u7:Value).ownBlock∧k_ ≠ gb257∧k_ ≠ gb259∧k_ ≠ gb261) u260000 x260000_2):=⟨d23⟩
         have n2_:Aside0 (((w20.setCell ⟨gb261,0,none⟩ (.int .i64 ((rd_T69 l1 x25_2).f0))).setCell ⟨gb261,1,none⟩ (.slice A260_1 ((rd_T69 l1 x25_2).f1).length c260_1)).heap[gb257]? = some (.cells #[.int .i64 a0_0, .int .i64 a0_1] 72 (0,0))):=⟨by (with_reducible repeat (first|refine qn ?_ _|refine qd ?_|refine qa ?_ _));refine blk_far ?_ NB257_261.out _;(with_reducible repeat (first|refine qn ?_ _|refine qd ?_|refine qa ?_ _));refine blk_far ?_ NB257_261.out _;(with_reducible repeat (first|refine qn ?_ _|refine qd ?_|refine qa ?_ _));exact BK257.out⟩
         have n3_:Aside0 (((w20.setCell ⟨gb261,0,none⟩ (.int .i64 ((rd_T69 l1 x25_2).f0))).setCell ⟨gb261,1,none⟩ (.slice A260_1 ((rd_T69 l1 x25_2).f1).length c260_1)).heap[gb259]? = some (.cells #[u260000] 43 (0,0))):=⟨by (with_reducible repeat (first|refine qn ?_ _|refine qd ?_|refine qa ?_ _));refine blk_far ?_ NB259_261.out _;(with_reducible repeat (first|refine qn ?_ _|refine qd ?_|refine qa ?_ _));refine blk_far ?_ NB259_261.out _;(with_reducible repeat (first|refine qn ?_ _|refine qd ?_|refine qa ?_ _));exact BK259.out⟩
         have n4_:Aside0 (((w20.setCell ⟨gb261,0,none⟩ (.int .i64 ((rd_T69 l1 x25_2).f0))).setCell ⟨gb261,1,none⟩ (.slice A260_1 ((rd_T69 l1 x25_2).f1).length c260_1)).heap[gb261]? = some (.cells #[.int .i64 ((rd_T69 l1 x25_2).f0), .slice A260_1 ((rd_T69 l1 x25_2).f1).length c260_1] 69 (0,0))):=⟨by (with_reducible repeat (first|refine qn ?_ _|refine qd ?_|refine qa ?_ _));refine blk_put (cs:=#[.int .i64 ((rd_T69 l1 x25_2).f0), .slice none 0 0]) ?_ 1 _ rfl;(with_reducible repeat (first|refine qn ?_ _|refine qd ?_|refine qa ?_ _));refine blk_put (cs:=#[.int .i64 0, .slice none 0 0]) ?_ 0 _ rfl;(with_reducible repeat (first|refine qn ?_ _|refine qd ?_|refine qa ?_ _));exact BK261.out⟩
         have n5_:Aside0 (Below w.heap.size w ((w20.setCell ⟨gb261,0,none⟩ (.int .i64 ((rd_T69 l1 x25_2).f0))).setCell ⟨gb261,1,none⟩ (.slice A260_1 ((rd_T69 l1 x25_2).f1).length c260_1))):=⟨by repeat (first|(with_reducible first|exact HB.out|apply pa|apply pb|apply pd|refine pt ?_ GE257.out|refine pt ?_ GE259.out|refine pt ?_ GE261.out)|exact HB.out)⟩
         (try clear HO_7)
         (try clear HO_260000)
         (try clear BK257)
         (try clear BK259)
         (try clear BK261)
         (try clear HB)
         generalize ((w20.setCell ⟨gb261,0,none⟩ (.int .i64 ((rd_T69 l1 x25_2).f0))).setCell ⟨gb261,1,none⟩ (.slice A260_1 ((rd_T69 l1 x25_2).f1).length c260_1))=w36 at n0_ n1_ n2_ n3_ n4_ n5_ ⊢
         have HO_7:=n0_
         have HO_260000:=n1_
         have BK257:=n2_
         have BK259:=n3_
         have BK261:=n4_
         have HB:=n5_
         clear n0_ n1_ n2_ n3_ n4_ n5_
         have n0_:=am (Kd.R_drew HO_7.out)
         have n1_:=am (Kd.N_drew HO_260000.out)
         have n2_:=am (qd BK257.out)
         have n3_:=am (qd BK259.out)
         have n4_:=am (qd BK261.out)
         have n5_:=am (pd HB.out)
         clear HO_7
         clear HO_260000
         clear BK257
         clear BK259
         clear BK261
         clear HB
         have HO_7:=n0_
         have HO_260000:=n1_
         have BK257:=n2_
         have BK259:=n3_
         have BK261:=n4_
         have HB:=n5_
         clear n0_ n1_ n2_ n3_ n4_ n5_
         refine rS (n:=19) (S:=fun w'=>w'.cell? ⟨gb257,0,none⟩=some (.int .i64 a0_0)∧w'.cell? ⟨gb257,1,none⟩=some (.int .i64 a0_1)∧w'.cell? ⟨gb261,0,none⟩=some (.int .i64 ((rd_T69 l1 x25_2).f0))∧w'.cell? ⟨gb261,1,none⟩=some (.slice A260_1 ((rd_T69 l1 x25_2).f1).length c260_1)) (ds:=[]) [(0,30),(1,31),(2,0),(3,33),(4,34),(5,35),(6,36),(7,37),(8,38),(9,39),(10,40),(11,41),(12,42),(13,43),(14,44),(15,45),(16,46),(17,47),(18,48)] d3 rfl spec_DecodeMsr.tab8 spec_DecodeMsr.bits8 ⟨(blk_cell BK257.out 0).trans rfl,(blk_cell BK257.out 1).trans rfl,(blk_cell BK261.out 0).trans rfl,(blk_cell BK261.out 1).trans rfl⟩ (fun hHeld HT_ HW_=>?_)
         generalize w36.drew=w37 at HO_7 HO_260000 BK257 BK259 BK261 HB hHeld ⊢
         refine rR ?_
         refine rO (N:=some 32) HT_ rfl rfl d3 d11 (fun K hK=>?_)
         refine goes_ Try.func149 d3 rfl #[.agg #[.int .i64 a0_0, .int .i64 a0_1], .agg #[.int .i64 ((rd_T69 l1 x25_2).f0), .slice A260_1 ((rd_T69 l1 x25_2).f1).length c260_1]] d18 rfl rfl d5 ?_
         with_reducible refine (spec_l5Piece.calls a0_0 a0_1 ((rd_T69 l1 x25_2).f0) _ _ ((rd_T69 l1 x25_2).f1) false _ ?side1 ?side2 A24.out).mono ?_
         (case side1=>repeat (first|exact (Kd.C_below HR260_1.out HB.out)|(with_reducible refine Kd.C_alloc ?_ _)|(with_reducible refine Kd.C_drewN ?_ _)|(with_reducible refine Kd.C_drew ?_)))
         (case side2=>exact HC260_1.out)
         rintro e w38 ⟨rfl,hb⟩
         refine ⟨_,rfl,?_⟩
         have n0_:=am (Kd.R_below d13 hb)
         have n1_:=am (Kd.N_below d15 hb)
         have n2_:=am (qb (g:=gb257) (o:=.cells #[.int .i64 a0_0, .int .i64 a0_1] 72 (0,0)) (by (with_reducible repeat (first|refine qn ?_ _|refine qd ?_|refine qa ?_ _));exact BK257.out) hb)
         have n3_:=am (qb (g:=gb259) (o:=.cells #[u260000] 43 (0,0)) (by (with_reducible repeat (first|refine qn ?_ _|refine qd ?_|refine qa ?_ _));exact BK259.out) hb)
         have n4_:=am (qb (g:=gb261) (o:=.cells #[.int .i64 ((rd_T69 l1 x25_2).f0), .slice A260_1 ((rd_T69 l1 x25_2).f1).length c260_1] 69 (0,0)) (by (with_reducible repeat (first|refine qn ?_ _|refine qd ?_|refine qa ?_ _));exact BK261.out) hb)
         have n5_:=am (pu (by repeat (first|(with_reducible first|exact HB.out|apply pa|apply pb|apply pd|refine pt ?_ GE257.out|refine pt ?_ GE259.out|refine pt ?_ GE261.out)|exact HB.out)) hb)
         clear HO_7
         clear HO_260000
         clear BK257
         clear BK259
         clear BK261
         clear HB
         have HO_7:=n0_
         have HO_260000:=n1_
         have BK257:=n2_
         have BK259:=n3_
         have BK261:=n4_
         have HB:=n5_
         clear n0_ n1_ n2_ n3_ n4_ n5_
         (try clear hb)
         (try clear hb2)
         (try clear hk)
         (try clear hi)
         refine hK.out _ _ ⟨(blk_cell BK257.out 0).trans rfl,(blk_cell BK257.out 1).trans rfl,(blk_cell BK261.out 0).trans rfl,(blk_cell BK261.out 1).trans rfl⟩ (fun hHeld=>?_)
         clear hK K
         refine rN (a':=?_) ?_ ?_
         rotate_left
         ·show Act.put _ (some 32) _=_
          simp only [Act.put,q1,q2,q3,i64_w,i32_w]
          rfl
         refine rR ?_
         refine rD HT_ d3 ?_
         try go_wp2
         go_meet
         case rel=>exact ⟨_,(true),d2,H',⟨d66⟩,⟨d13⟩,⟨d15⟩,⟨by (with_reducible repeat (first|refine qn ?_ _|refine qd ?_|refine qa ?_ _));exact BK257.out⟩,⟨by (with_reducible repeat (first|refine qn ?_ _|refine qd ?_|refine qa ?_ _));exact BK259.out⟩,⟨by (with_reducible repeat (first|refine qn ?_ _|refine qd ?_|refine qa ?_ _));exact BK261.out⟩,⟨by repeat (first|(with_reducible first|exact HB.out|apply pa|apply pb|apply pd|refine pt ?_ GE257.out|refine pt ?_ GE259.out|refine pt ?_ GE261.out)|exact HB.out)⟩⟩
        case rest =>
         clear HC19
         try clear c1
         try clear c2
         try clear p2
         try clear q2
         try clear hx2
         try clear c14
         try clear c25
         try clear c26
         try clear c26b0
         try clear p26
         try clear q26
         try clear hx26
         try clear c28
         try clear c29
         try clear hx263_0
         try clear hx263_1
         try clear p263
         try clear q263
         obtain ⟨kq,x48_18,rfl,HA,HJ18,HO_7,HO_260000,BK257,BK259,BK261,HB⟩:=hcut
         cases kq with
         | zero=>exact absurd HA.out (by simp [spec_DecodeMsr.j2])
         | succ kj18 =>
          have H:=HA.out
          clear HA
          simp only [spec_DecodeMsr.j2] at H
          by_cases c39:x48_18=true
          ·subst c39
           have H1:(some (([]:List Int),false))=some (r1,r2):=by rw [if_pos rfl] at H;exact H
           clear H
           have H:=H1
           clear H1
           simp only [Option.some.injEq,Prod.mk.injEq] at H
           obtain ⟨rfl,rfl⟩:=H
           go_wp2
           go_ret2
           exact ⟨_,d4,d16,by repeat (first|(with_reducible first|exact HB.out|apply pa|apply pb|apply pd|refine pt ?_ GE257.out|refine pt ?_ GE259.out|refine pt ?_ GE261.out)|exact HB.out)⟩
          replace c39:=Bool.eq_false_iff.mpr c39
          subst c39
          have H1:(if x25_2 < a0_1 then ((spec_l5Unknowns.f kj18 a0_0 a0_1 ((rd_T69 l1 x25_2).f0)).bind fun t264=>(if x260000_2.length+t264.length < 5864062014805 then (if x7_2.length+((rd_T69 l1 x25_2).f1).length < 140737488355328 then (spec_DecodeMsr.l0 kj18 l1 (x7_2 ++ ((rd_T69 l1 x25_2).f1)) l1 (l1.length:Int) (wrap64 (x25_2+1)) a0_0 a0_1 (x260000_2 ++ t264)) else (none)) else (none))) else (spec_DecodeMsr.l0 kj18 l1 x7_2 l1 (l1.length:Int) (wrap64 (x25_2+1)) a0_0 a0_1 x260000_2))=some (r1,r2):=by rw [if_neg (show ¬ (false=true) by decide)] at H;exact H
          clear H
          have H:=H1
          clear H1
          by_cases c40:x25_2 < a0_1
          ·rw [if_pos c40] at H
           have c40b0:decide (x25_2 < a0_1)=true:=decide_eq_true c40
           clear c40
           replace H:=Option.bind_eq_some_iff.mp H
           obtain ⟨t264,A410,H⟩:=H
           replace H:(if x260000_2.length+t264.length < 5864062014805 then (if x7_2.length+((rd_T69 l1 x25_2).f1).length < 140737488355328 then (spec_DecodeMsr.l0 kj18 l1 (x7_2 ++ ((rd_T69 l1 x25_2).f1)) l1 (l1.length:Int) (wrap64 (x25_2+1)) a0_0 a0_1 (x260000_2 ++ t264)) else (none)) else (none))=some (r1,r2):=H
           have A41:=am A410
           clear A410
           by_cases c42:x260000_2.length+t264.length < 5864062014805
           ·rw [if_pos c42] at H
            have LMc42:=am c42
            clear c42
            obtain ⟨y267,hy267⟩:∃ y_:List (List Int),y_=(x260000_2 ++ t264):=⟨_,rfl⟩
            replace H:(if x7_2.length+((rd_T69 l1 x25_2).f1).length < 140737488355328 then (spec_DecodeMsr.l0 kj18 l1 (x7_2 ++ ((rd_T69 l1 x25_2).f1)) l1 (l1.length:Int) (wrap64 (x25_2+1)) a0_0 a0_1 y267) else (none))=some (r1,r2):=by first|(rw [hy267];with_reducible exact H)|(have H2_:=(Option.bind_some _ _).symm.trans H;rw [hy267];with_reducible exact H2_)|(have H2_:=(Option.bind_some _ _).symm.trans H;with_reducible exact H2_)|with_reducible exact H|(rw [hy267];exact H)|exact H
            have Ny267:=am hy267
            clear hy267
            by_cases c43:x7_2.length+((rd_T69 l1 x25_2).f1).length < 140737488355328
            ·rw [if_pos c43] at H
             have LMc43:=am c43
             clear c43
             obtain ⟨y270,hy270⟩:∃ y_:List Int,y_=(x7_2 ++ ((rd_T69 l1 x25_2).f1)):=⟨_,rfl⟩
             replace H:(spec_DecodeMsr.l0 kj18 l1 y270 l1 (l1.length:Int) (wrap64 (x25_2+1)) a0_0 a0_1 y267)=some (r1,r2):=by first|(rw [hy270];with_reducible exact H)|(have H2_:=(Option.bind_some _ _).symm.trans H;rw [hy270];with_reducible exact H2_)|(have H2_:=(Option.bind_some _ _).symm.trans H;with_reducible exact H2_)|with_reducible exact H|(rw [hy270];exact H)|exact H
             have Ny270:=am hy270
             clear hy270
             have H':=am H
             clear H
             have hnb44:=NB257_259.out
             have hnc44:=NB259_257.out
             have hnb45:=NB257_261.out
             have hnc45:=NB261_257.out
             have hcz46_0:wc.cell? ⟨gb257,0,none⟩=some (.int .i64 a0_0):=(blk_cell BK257.out 0).trans rfl
             have hcz46_1:wc.cell? ⟨gb257,1,none⟩=some (.int .i64 a0_1):=(blk_cell BK257.out 1).trans rfl
             have hfz46_0:=blk_frozen BK257.out 0
             have hfz46_1:=blk_frozen BK257.out 1
             try go_wp2
             have n0_:=am (Kd.R_drew HO_7.out)
             have n1_:=am (Kd.N_drew HO_260000.out)
             have n2_:=am (qd BK257.out)
             have n3_:=am (qd BK259.out)
             have n4_:=am (qd BK261.out)
             have n5_:=am (pd HB.out)
             clear HO_7
             clear HO_260000
             clear BK257
             clear BK259
             clear BK261
             clear HB
             have HO_7:=n0_
             have HO_260000:=n1_
             have BK257:=n2_
             have BK259:=n3_
             have BK261:=n4_
             have HB:=n5_
             clear n0_ n1_ n2_ n3_ n4_ n5_
             refine rS (n:=9) (S:=fun w'=>w'.cell? ⟨gb259,0,none⟩=some (u260000)∧w'.cell? ⟨gb257,0,none⟩=some (.int .i64 a0_0)∧w'.cell? ⟨gb257,1,none⟩=some (.int .i64 a0_1)∧w'.cell? ⟨gb261,0,none⟩=some (.int .i64 ((rd_T69 l1 x25_2).f0))∧w'.cell? ⟨gb261,1,none⟩=some (.slice A260_1 ((rd_T69 l1 x25_2).f1).length c260_1)) (ds:=[8]) [(0,53),(3,56),(1,54),(2,55),(4,57),(5,0),(6,0),(7,60),(8,0)] d3 rfl spec_DecodeMsr.tab11 spec_DecodeMsr.bits11 ⟨(blk_cell BK259.out 0).trans rfl,(blk_cell BK257.out 0).trans rfl,(blk_cell BK257.out 1).trans rfl,(blk_cell BK261.out 0).trans rfl,(blk_cell BK261.out 1).trans rfl⟩ (fun hHeld HT_ HW_=>?_)
             generalize wc.drew=w47 at HO_7 HO_260000 BK257 BK259 BK261 HB hHeld ⊢
             refine rR ?_
             refine rO (N:=some 58) HT_ rfl rfl d3 d11 (fun K hK=>?_)
             refine goes_ Try.func150 d3 rfl #[.agg #[.int .i64 a0_0, .int .i64 a0_1], .int .i64 ((rd_T69 l1 x25_2).f0)] d18 rfl rfl d5 ?_
             with_reducible refine (spec_l5Unknowns.calls kj18 a0_0 a0_1 ((rd_T69 l1 x25_2).f0) t264 _ A41.out).mono ?_
             rintro e w48 ⟨v265,rfl,ho0,hb⟩
             refine ⟨_,rfl,?_⟩
             have n0_:=am (Kd.R_below d13 hb)
             have n1_:=am (Kd.N_elder' d15 d63 hb)
             have n2_:=am (Kd.N_lower (Kd.N_mono (ok':=fun k_=>some k_ ≠ (u7:Value).ownBlock∧some k_ ≠ (u260000:Value).ownBlock∧k_ ≠ gb257∧k_ ≠ gb259∧k_ ≠ gb261) (Kd.S_N (Kd.S_bound ho0)) (fun k_ hk_=>⟨(Kd.fresh' (Kd.R_lt d13) k_ hk_.2.1),(Kd.fresh' (Kd.N_lt d15) k_ hk_.2.1),(Kd.freshB (g:=gb257) (o:=.cells #[.int .i64 a0_0, .int .i64 a0_1] 72 (0,0)) (by (with_reducible repeat (first|refine qn ?_ _|refine qd ?_|refine qa ?_ _));exact BK257.out) k_ hk_.2.1),(Kd.freshB (g:=gb259) (o:=.cells #[u260000] 43 (0,0)) (by (with_reducible repeat (first|refine qn ?_ _|refine qd ?_|refine qa ?_ _));exact BK259.out) k_ hk_.2.1),(Kd.freshB (g:=gb261) (o:=.cells #[.int .i64 ((rd_T69 l1 x25_2).f0), .slice A260_1 ((rd_T69 l1 x25_2).f1).length c260_1] 69 (0,0)) (by (with_reducible repeat (first|refine qn ?_ _|refine qd ?_|refine qa ?_ _));exact BK261.out) k_ hk_.2.1)⟩)) (pz (by repeat (first|(with_reducible first|exact HB.out|apply pa|apply pb|apply pd|refine pt ?_ GE257.out|refine pt ?_ GE259.out|refine pt ?_ GE261.out)|exact HB.out))))
             have n3_:=am (qb (g:=gb257) (o:=.cells #[.int .i64 a0_0, .int .i64 a0_1] 72 (0,0)) (by (with_reducible repeat (first|refine qn ?_ _|refine qd ?_|refine qa ?_ _));exact BK257.out) hb)
             have n4_:=am (qb (g:=gb259) (o:=.cells #[u260000] 43 (0,0)) (by (with_reducible repeat (first|refine qn ?_ _|refine qd ?_|refine qa ?_ _));exact BK259.out) hb)
             have n5_:=am (qb (g:=gb261) (o:=.cells #[.int .i64 ((rd_T69 l1 x25_2).f0), .slice A260_1 ((rd_T69 l1 x25_2).f1).length c260_1] 69 (0,0)) (by (with_reducible repeat (first|refine qn ?_ _|refine qd ?_|refine qa ?_ _));exact BK261.out) hb)
             have n6_:=am (pu (by repeat (first|(with_reducible first|exact HB.out|apply pa|apply pb|apply pd|refine pt ?_ GE257.out|refine pt ?_ GE259.out|refine pt ?_ GE261.out)|exact HB.out)) hb)
             clear HO_7
             clear HO_260000
             clear BK257
             clear BK259
             clear BK261
             clear HB
             have HO_7:=n0_
             have HO_260000:=n1_
             have HO266:=n2_
             have BK257:=n3_
             have BK259:=n4_
             have BK261:=n5_
             have HB:=n6_
             clear n0_ n1_ n2_ n3_ n4_ n5_ n6_
             (try clear hb)
             (try clear hb2)
             (try clear hk)
             (try clear hi)
             (try clear ho0)
             obtain ⟨Ao50,co50,eo50⟩:=Kd.N_slice HO266.out
             (first|subst eo50|(injection eo50 with f1_ f2_ f3_;have f4_:=f1_.symm;have f5_:=f3_.symm;clear f1_ f2_ f3_;subst f4_;subst f5_))
             refine hK.out _ _ ⟨(blk_cell BK259.out 0).trans rfl,(blk_cell BK257.out 0).trans rfl,(blk_cell BK257.out 1).trans rfl,(blk_cell BK261.out 0).trans rfl,(blk_cell BK261.out 1).trans rfl⟩ (fun hHeld=>?_)
             clear hK K
             refine rN (a':=?_) ?_ ?_
             rotate_left
             ·show Act.put _ (some 58) _=_
              simp only [Act.put,q1,q2,q3,i64_w,i32_w]
              rfl
             refine rO (N:=some 59) HT_ rfl rfl d3 d11 (fun K hK=>?_)
             refine Kd.N_append_rows_step (Kd.slice 5 (Kd.int .u8)) (w0:=w) w.heap.size d18 (.tmp 54) (.tmp 58) 37 57 (.slice none 0 0) 24 rfl Try.underlying37 info57 rfl d11 d10 u260000 x260000_2 t264 _ _ _ (fun k_=>some k_ ≠ (u7:Value).ownBlock∧k_ ≠ gb257∧k_ ≠ gb259∧k_ ≠ gb261) (fun k_=>((fun k_=>some k_ ≠ (u7:Value).ownBlock∧k_ ≠ gb257∧k_ ≠ gb259∧k_ ≠ gb261)) k_∧some k_ ≠ (u260000:Value).ownBlock) rfl rfl ?aO ?aR (fun _ hk=>hk) ?aF ?aB ?aS ?aL ?_
             (case aR=>exact (by skip;exact Kd.N_F (Kd.N_mono (ok':=(fun k_=>((fun k_=>some k_ ≠ (u7:Value).ownBlock∧k_ ≠ gb257∧k_ ≠ gb259∧k_ ≠ gb261)) k_∧some k_ ≠ (u260000:Value).ownBlock)) (HO266.out) (fun k_ hk=>⟨⟨hk.1,⟨hk.2.2.1,⟨hk.2.2.2.1,hk.2.2.2.2⟩⟩⟩,hk.2.1⟩))))
             (case aB=>exact (by repeat (first|(with_reducible first|exact HB.out|apply pa|apply pb|apply pd|refine pt ?_ GE257.out|refine pt ?_ GE259.out|refine pt ?_ GE261.out)|exact HB.out)))
             (case aF=>exact (fun k_ hk=>⟨Kd.fresh' (Kd.R_lt d13) k_ hk,Kd.freshB (g:=gb257) (o:=.cells #[.int .i64 a0_0, .int .i64 a0_1] 72 (0,0)) (by (with_reducible repeat (first|refine qn ?_ _|refine qd ?_|refine qa ?_ _));exact BK257.out) k_ hk,Kd.freshB (g:=gb259) (o:=.cells #[u260000] 43 (0,0)) (by (with_reducible repeat (first|refine qn ?_ _|refine qd ?_|refine qa ?_ _));exact BK259.out) k_ hk,Kd.freshB (g:=gb261) (o:=.cells #[.int .i64 ((rd_T69 l1 x25_2).f0), .slice A260_1 ((rd_T69 l1 x25_2).f1).length c260_1] 69 (0,0)) (by (with_reducible repeat (first|refine qn ?_ _|refine qd ?_|refine qa ?_ _));exact BK261.out) k_ hk⟩))
             (case aO=>exact (by (with_reducible repeat (first|apply Kd.N_alloc|apply Kd.N_drewN|apply Kd.N_drew));exact Kd.N_mono HO_260000.out (fun _ hk=>⟨hk.1.1,⟨hk.1.2.1,⟨hk.1.2.2.1,hk.1.2.2.2⟩⟩⟩)))
             (case aS=>exact (pz (by repeat (first|(with_reducible first|exact HB.out|apply pa|apply pb|apply pd|refine pt ?_ GE257.out|refine pt ?_ GE259.out|refine pt ?_ GE261.out)|exact HB.out))))
             (case aL=>have:=LMc42.out;omega)
             intro v268 w49 ho hb hg hat
             rw [← Ny267.out] at ho
             have n0_:=am (Kd.R_over' d13 (Kd.N_typed d15) d11 hg)
             have n1_:=am (blk_grown (g:=gb257) (o:=.cells #[.int .i64 a0_0, .int .i64 a0_1] 72 (0,0)) (by (with_reducible repeat (first|refine qn ?_ _|refine qd ?_|refine qa ?_ _));exact BK257.out) hg (Kd.N_ne HO_260000.out BK257.out d11))
             have n2_:=am (blk_grown (g:=gb259) (o:=.cells #[u260000] 43 (0,0)) (by (with_reducible repeat (first|refine qn ?_ _|refine qd ?_|refine qa ?_ _));exact BK259.out) hg (Kd.N_ne HO_260000.out BK259.out d11))
             have n3_:=am (blk_grown (g:=gb261) (o:=.cells #[.int .i64 ((rd_T69 l1 x25_2).f0), .slice A260_1 ((rd_T69 l1 x25_2).f1).length c260_1] 69 (0,0)) (by (with_reducible repeat (first|refine qn ?_ _|refine qd ?_|refine qa ?_ _));exact BK261.out) hg (Kd.N_ne HO_260000.out BK261.out d11))
             have n4_:=am (Kd.N_afterv (ok:=(fun k_=>some k_ ≠ (u7:Value).ownBlock∧k_ ≠ gb257∧k_ ≠ gb259∧k_ ≠ gb261)) (by (with_reducible repeat (first|apply Kd.N_alloc|apply Kd.N_drewN|apply Kd.N_drew));exact Kd.N_mono HO266.out (fun _ hk=>⟨⟨hk.1,⟨hk.2.2.1,⟨hk.2.2.2.1,hk.2.2.2.2⟩⟩⟩,hk.2.1⟩)) hg hat)
             have n5_:=am (hb)
             have n6_:=am (ho)
             clear HO_7
             clear BK257
             clear BK259
             clear BK261
             clear HO266
             clear HB
             clear HO_260000
             have HO_7:=n0_
             have BK257:=n1_
             have BK259:=n2_
             have BK261:=n3_
             have HO266:=n4_
             have HB:=n5_
             have HO269:=n6_
             clear n0_ n1_ n2_ n3_ n4_ n5_ n6_
             clear ho hb hg hat
             obtain ⟨Ao51,co51,eo51⟩:=Kd.N_slice HO269.out
             (first|subst eo51|(injection eo51 with f1_ f2_ f3_;have f4_:=f1_.symm;have f5_:=f3_.symm;clear f1_ f2_ f3_;subst f4_;subst f5_))
             refine hK.out _ _ ⟨(blk_cell BK259.out 0).trans rfl,(blk_cell BK257.out 0).trans rfl,(blk_cell BK257.out 1).trans rfl,(blk_cell BK261.out 0).trans rfl,(blk_cell BK261.out 1).trans rfl⟩ (fun hHeld=>?_)
             clear hK K
             refine rN (a':=?_) ?_ ?_
             rotate_left
             ·show Act.put _ (some 59) _=_
              simp only [Act.put,q1,q2,q3,i64_w,i32_w]
              rfl
             refine rR ?_
             refine rL (N:=none) HT_ rfl rfl d3 d11 (fun K hK=>?_)
             have hs52:w49.cell? ⟨gb259,0,none⟩=some (u260000):=(blk_cell BK259.out 0).trans rfl
             have hfs52:=blk_frozen BK259.out 0
             have hns52_0:=NB257_259.out
             have hns52_2:=NB261_259.out
             have hms52_0:=NB259_257.out
             have hms52_2:=NB259_261.out
             refine skip_ (w1:=?_) d18 rfl ?_ ?_
             rotate_left
             ·go_simp
              rfl
             refine hK.out _ _ ?_
             clear hK K
             refine rD HT_ d3 ?_
             have hnb53:=NB261_259.out
             have hnc53:=NB259_261.out
             have hcz54_0:w49.cell? ⟨gb261,0,none⟩=some (.int .i64 ((rd_T69 l1 x25_2).f0)):=(blk_cell BK261.out 0).trans rfl
             have hcz54_1:w49.cell? ⟨gb261,1,none⟩=some (.slice A260_1 ((rd_T69 l1 x25_2).f1).length c260_1):=(blk_cell BK261.out 1).trans rfl
             have hfz54_0:=blk_frozen BK261.out 0
             have hfz54_1:=blk_frozen BK261.out 1
             try go_wp2_with (first|((with_reducible refine gate_builtin (b:=.append) (xs:=#[.tmp 61, .tmp 63]) rfl ?_);(try (refine gate_guard d18 ?_;dsimp only));at_builtin;refine Kd.R_append_rows (Kd.int .u8) (w0:=w) w.heap.size rfl (.tmp 61) (.tmp 63) 57 5 (.int .u8 0) 1 rfl Try.underlying57 info5 rfl d11 d10 u7 x7_2 ((rd_T69 l1 x25_2).f1) _ _ _ (fun _=>True) (fun _=>False) rfl rfl ?aO ?aR (fun _ _ h=>h) (fun _ h=>h.elim) ?aF ?aB ?aS ?aL ?_;(case aR=>exact Kd.C_below HR260_1.out (by repeat (first|(with_reducible first|exact HB.out|apply pa|apply pb|apply pd|refine pt ?_ GE257.out|refine pt ?_ GE259.out|refine pt ?_ GE261.out)|exact HB.out)));(case aB=>exact (by repeat (first|(with_reducible first|exact HB.out|apply pa|apply pb|apply pd|refine pt ?_ GE257.out|refine pt ?_ GE259.out|refine pt ?_ GE261.out)|exact HB.out)));(case aF=>exact (fun _ _=>trivial));(case aO=>exact (by (with_reducible repeat (first|apply Kd.R_alloc|apply Kd.R_drewN|apply Kd.R_drew));exact Kd.R_mono (Kd.R_far (p:=⟨gb259,0,none⟩) (Kd.R_types HO_7.out BK259.out d11) (fun _ hk=>hk.2) (.slice Ao51 y267.length co51)) (fun _ hk=>trivial)));(case aS=>exact (pz (by repeat (first|(with_reducible first|exact HB.out|apply pa|apply pb|apply pd|refine pt ?_ GE257.out|refine pt ?_ GE259.out|refine pt ?_ GE261.out)|exact HB.out))));(case aL=>have:=LMc43.out;omega);intro v271 w55 ho hb hg hat;rw [← Ny270.out] at ho;have n0_:=am (blk_grown (g:=gb257) (o:=.cells #[.int .i64 a0_0, .int .i64 a0_1] 72 (0,0)) (by (with_reducible repeat (first|refine qn ?_ _|refine qd ?_|refine qa ?_ _));refine blk_far ?_ NB257_259.out _;(with_reducible repeat (first|refine qn ?_ _|refine qd ?_|refine qa ?_ _));exact BK257.out) hg (Kd.R_ne HO_7.out BK257.out d11));have n1_:=am (blk_grown (g:=gb259) (o:=.cells #[.slice Ao51 y267.length co51] 43 (0,0)) (by (with_reducible repeat (first|refine qn ?_ _|refine qd ?_|refine qa ?_ _));refine blk_put (cs:=#[u260000]) ?_ 0 _ rfl;(with_reducible repeat (first|refine qn ?_ _|refine qd ?_|refine qa ?_ _));exact BK259.out) hg (Kd.R_ne HO_7.out BK259.out d11));have n2_:=am (blk_grown (g:=gb261) (o:=.cells #[.int .i64 ((rd_T69 l1 x25_2).f0), .slice A260_1 ((rd_T69 l1 x25_2).f1).length c260_1] 69 (0,0)) (by (with_reducible repeat (first|refine qn ?_ _|refine qd ?_|refine qa ?_ _));refine blk_far ?_ NB261_259.out _;(with_reducible repeat (first|refine qn ?_ _|refine qd ?_|refine qa ?_ _));exact BK261.out) hg (Kd.R_ne HO_7.out BK261.out d11));have n3_:=am (Kd.N_afterv (ok:=(fun k_=>some k_ ≠ (.slice Ao51 y267.length co51:Value).ownBlock∧k_ ≠ gb257∧k_ ≠ gb259∧k_ ≠ gb261)) (by (with_reducible repeat (first|apply Kd.N_alloc|apply Kd.N_drewN|apply Kd.N_drew));exact Kd.N_mono (Kd.N_far (p:=⟨gb259,0,none⟩) (Kd.N_mono HO266.out (fun k_ hk=>(⟨hk,hk.1.2.2.1⟩:_∧k_ ≠ gb259))) (fun _ hk=>hk.2) (.slice Ao51 y267.length co51)) (fun _ hk=>⟨⟨hk.1.2,⟨hk.1.1.2.1,⟨hk.1.1.2.2.1,hk.1.1.2.2.2⟩⟩⟩,hk.1.1.1⟩)) hg hat);have n4_:=am (Kd.N_afterv (ok:=(fun k_=>k_ ≠ gb257∧k_ ≠ gb259∧k_ ≠ gb261)) (by (with_reducible repeat (first|apply Kd.N_alloc|apply Kd.N_drewN|apply Kd.N_drew));exact Kd.N_mono (Kd.N_far (p:=⟨gb259,0,none⟩) (Kd.N_mono HO269.out (fun k_ hk=>(⟨hk,hk.2.2.1⟩:_∧k_ ≠ gb259))) (fun _ hk=>hk.2) (.slice Ao51 y267.length co51)) (fun _ hk=>⟨⟨hk.1.2.1,⟨hk.1.2.2.1,hk.1.2.2.2⟩⟩,hk.1.1⟩)) hg hat);have n5_:=am (hb);have n6_:=am (ho);clear BK257;clear BK259;clear BK261;clear HO266;clear HO269;clear HB;clear HO_7;have BK257:=n0_;have BK259:=n1_;have BK261:=n2_;have HO266:=n3_;have HO269:=n4_;have HB:=n5_;have HO272:=n6_;clear n0_ n1_ n2_ n3_ n4_ n5_ n6_;clear ho hb hg hat))
             go_roundg kj18
             case measure=>have:=HJ2.out;have:=HK2.out;have:=HJ18.out;omega
             case rel=>exact ⟨(y270),(wrap64 (x25_2+1)),(y267),(.slice Ao51 y267.length co51),d2,H',⟨by have:=HJ2.out;have:=HK2.out;have:=HJ18.out;omega⟩,⟨by (with_reducible repeat (first|apply Kd.R_alloc|apply Kd.R_drewN|apply Kd.R_drew));exact HO272.out⟩,⟨by (with_reducible repeat (first|apply Kd.N_alloc|apply Kd.N_drewN|apply Kd.N_drew));exact Kd.N_mono HO269.out (fun _ hk=>⟨hk.2,⟨hk.1.1,hk.1.2.1⟩⟩)⟩,⟨by (with_reducible repeat (first|refine qn ?_ _|refine qd ?_|refine qa ?_ _));exact BK257.out⟩,⟨by (with_reducible repeat (first|refine qn ?_ _|refine qd ?_|refine qa ?_ _));exact BK259.out⟩,⟨by repeat (first|(with_reducible first|exact HB.out|apply pa|apply pb|apply pd|refine pt ?_ GE257.out|refine pt ?_ GE259.out|refine pt ?_ GE261.out)|exact HB.out)⟩⟩
            rw [if_neg c43] at H
            exact absurd H d20
           rw [if_neg c42] at H
           exact absurd H d20
          rw [if_neg c40] at H
          have c40b0:decide (x25_2 < a0_1)=false:=decide_eq_false c40
          clear c40
          have H':=am H
          clear H
          have hnb56:=NB257_259.out
          have hnc56:=NB259_257.out
          have hnb57:=NB257_261.out
          have hnc57:=NB261_257.out
          have hcz58_0:wc.cell? ⟨gb257,0,none⟩=some (.int .i64 a0_0):=(blk_cell BK257.out 0).trans rfl
          have hcz58_1:wc.cell? ⟨gb257,1,none⟩=some (.int .i64 a0_1):=(blk_cell BK257.out 1).trans rfl
          have hfz58_0:=blk_frozen BK257.out 0
          have hfz58_1:=blk_frozen BK257.out 1
          go_wp2
          go_roundg kj18
          case measure=>have:=HJ2.out;have:=HK2.out;have:=HJ18.out;omega
          case rel=>exact ⟨(x7_2),(wrap64 (x25_2+1)),(x260000_2),(u260000),d2,H',⟨by have:=HJ2.out;have:=HK2.out;have:=HJ18.out;omega⟩,⟨d13⟩,⟨by (with_reducible repeat (first|apply Kd.N_alloc|apply Kd.N_drewN|apply Kd.N_drew));exact Kd.N_mono HO_260000.out (fun _ hk=>⟨hk.1,⟨hk.2.1,hk.2.2.1⟩⟩)⟩,⟨by (with_reducible repeat (first|refine qn ?_ _|refine qd ?_|refine qa ?_ _));exact BK257.out⟩,⟨by (with_reducible repeat (first|refine qn ?_ _|refine qd ?_|refine qa ?_ _));exact BK259.out⟩,⟨by repeat (first|(with_reducible first|exact HB.out|apply pa|apply pb|apply pd|refine pt ?_ GE257.out|refine pt ?_ GE259.out|refine pt ?_ GE261.out)|exact HB.out)⟩⟩
       rw [if_neg c18] at H
       exact absurd H d20
      rw [if_neg c17] at H
      exact absurd H d20
     rw [if_neg c16] at H
     have c16b0:decide (x25_2 < (l1.length:Int))=false:=decide_eq_false c16
     clear c16
     replace H:=Option.bind_eq_some_iff.mp H
     obtain ⟨⟨t273,t276⟩,A590,H⟩:=H
     replace H:(if t276=true then ((spec_l2Apply.f k2 t273 x7_2).bind fun t278=>(some (t278,true))) else (some (([]:List Int),false)))=some (r1,r2):=H
     have A59:=am A590
     clear A590
     by_cases c60:t276=true
     ·subst c60
      have H1:((spec_l2Apply.f k2 t273 x7_2).bind fun t278=>(some (t278,true)))=some (r1,r2):=by rw [if_pos rfl] at H;exact H
      clear H
      have H:=H1
      clear H1
      replace H:=Option.bind_eq_some_iff.mp H
      obtain ⟨t278,A610,H⟩:=H
      replace H:(some (t278,true))=some (r1,r2):=H
      have A61:=am A610
      clear A610
      simp only [Option.some.injEq,Prod.mk.injEq] at H
      obtain ⟨rfl,rfl⟩:=H
      have hnb62:=NB259_257.out
      have hnc62:=NB257_259.out
      have hcz63_0:wr.cell? ⟨gb259,0,none⟩=some (u260000):=(blk_cell BK259.out 0).trans rfl
      have hfz63_0:=blk_frozen BK259.out 0
      obtain ⟨Ao64,co64,eo64⟩:=Kd.N_slice HO_260000.out
      subst eo64
      go_wp2_with (first|((with_reducible refine gate_callee (f:=91) rfl ?_);refine goesL_ (some 68) rfl rfl Try.func91 d3 rfl #[.agg #[.slice Ao64 x260000_2.length co64]] rfl d5 ?_;(with_reducible refine (spec_l2Inverse.calls _ _ x260000_2 t273 true _ ?side1 ?side2 A59.out).mono ?_);(case side1=>repeat (first|exact (Kd.N_reads' HO_260000.out).2.2|(with_reducible refine Kd.C_alloc ?_ _)|(with_reducible refine Kd.C_drewN ?_ _)|(with_reducible refine Kd.C_drew ?_)));(case side2=>exact (Kd.N_reads' HO_260000.out).2.1);rintro e w65 ⟨v274,rfl,ho0,hb⟩;refine ⟨_,rfl,?_⟩;have n0_:=am (Kd.R_below d13 hb);have n1_:=am (Kd.N_elder' d15 d63 hb);have n2_:=am (Kd.N_lower (Kd.N_mono (ok':=fun k_=>some k_ ≠ (u7:Value).ownBlock∧some k_ ≠ (.slice Ao64 x260000_2.length co64:Value).ownBlock∧k_ ≠ gb257∧k_ ≠ gb259) ho0 (fun k_ hk_=>⟨(Kd.fresh' (Kd.R_lt d13) k_ hk_),(Kd.fresh' (Kd.N_lt d15) k_ hk_),(Kd.freshB (g:=gb257) (o:=.cells #[.int .i64 a0_0, .int .i64 a0_1] 72 (0,0)) (by (with_reducible repeat (first|refine qn ?_ _|refine qd ?_|refine qa ?_ _));exact BK257.out) k_ hk_),(Kd.freshB (g:=gb259) (o:=.cells #[.slice Ao64 x260000_2.length co64] 43 (0,0)) (by (with_reducible repeat (first|refine qn ?_ _|refine qd ?_|refine qa ?_ _));exact BK259.out) k_ hk_)⟩)) (pz (by repeat (first|(with_reducible first|exact HB.out|apply pa|apply pb|apply pd|refine pt ?_ GE257.out|refine pt ?_ GE259.out)|exact HB.out))));have n3_:=am (qb (g:=gb257) (o:=.cells #[.int .i64 a0_0, .int .i64 a0_1] 72 (0,0)) (by (with_reducible repeat (first|refine qn ?_ _|refine qd ?_|refine qa ?_ _));exact BK257.out) hb);have n4_:=am (qb (g:=gb259) (o:=.cells #[.slice Ao64 x260000_2.length co64] 43 (0,0)) (by (with_reducible repeat (first|refine qn ?_ _|refine qd ?_|refine qa ?_ _));exact BK259.out) hb);have n5_:=am (pu (by repeat (first|(with_reducible first|exact HB.out|apply pa|apply pb|apply pd|refine pt ?_ GE257.out|refine pt ?_ GE259.out)|exact HB.out)) hb);clear HO_7;clear HO_260000;clear BK257;clear BK259;clear HB;have HO_7:=n0_;have HO_260000:=n1_;have HO275:=n2_;have BK257:=n3_;have BK259:=n4_;have HB:=n5_;clear n0_ n1_ n2_ n3_ n4_ n5_;(try clear hb);(try clear hb2);(try clear hk);(try clear hi);(try clear ho0))|((with_reducible refine gate_dst (N:=10) rfl ?_);(try (refine gate_guard d18 ?_;dsimp only));refine box_event ?hg (N:=10) ?hd (cs:=#[.slice none 0 0]) (t:=43) ?hr ?_;(case hd=>rfl);(case hg=>rfl);(case hr=>first|(go_simp;done)|(go_simp;rfl));intro gb277 hg w66 hbox hb;have n0_:=am (Kd.R_below d13 hb);have n1_:=am (Kd.N_below (Kd.N_elderB d15 gb277 (Nat.le_of_eq hg.symm)) hb);have n2_:=am (Kd.N_below (Kd.N_elderB (by (with_reducible repeat (first|apply Kd.N_alloc|apply Kd.N_drewN|apply Kd.N_drew));exact HO275.out) gb277 (Nat.le_of_eq hg.symm)) hb);have n3_:=am (qb (g:=gb257) (o:=.cells #[.int .i64 a0_0, .int .i64 a0_1] 72 (0,0)) (by (with_reducible repeat (first|refine qn ?_ _|refine qd ?_|refine qa ?_ _));exact BK257.out) hb);have n4_:=am (qb (g:=gb259) (o:=.cells #[.slice Ao64 x260000_2.length co64] 43 (0,0)) (by (with_reducible repeat (first|refine qn ?_ _|refine qd ?_|refine qa ?_ _));exact BK259.out) hb);have n5_:=am (pu (by repeat (first|(with_reducible first|exact HB.out|apply pa|apply pb|apply pd|refine pt ?_ GE257.out|refine pt ?_ GE259.out)|exact HB.out)) hb);have n6_:=am (hbox);have n7_:=am ((by rw [hg];exact (pz (by repeat (first|(with_reducible first|exact HB.out|apply pa|apply pb|apply pd|refine pt ?_ GE257.out|refine pt ?_ GE259.out)|exact HB.out))):w.heap.size≤gb277));have n8_:=n7_;have n9_:=am ((by rw [hg];exact Nat.ne_of_lt (blk_lt (g:=gb257) (o:=.cells #[.int .i64 a0_0, .int .i64 a0_1] 72 (0,0)) (by (with_reducible repeat (first|refine qn ?_ _|refine qd ?_|refine qa ?_ _));exact BK257.out)):gb257 ≠ gb277));have n10_:=am ((by rw [hg];exact Nat.ne_of_gt (blk_lt (g:=gb257) (o:=.cells #[.int .i64 a0_0, .int .i64 a0_1] 72 (0,0)) (by (with_reducible repeat (first|refine qn ?_ _|refine qd ?_|refine qa ?_ _));exact BK257.out)):gb277 ≠ gb257));have n11_:=am ((by rw [hg];exact Nat.ne_of_lt (blk_lt (g:=gb259) (o:=.cells #[.slice Ao64 x260000_2.length co64] 43 (0,0)) (by (with_reducible repeat (first|refine qn ?_ _|refine qd ?_|refine qa ?_ _));exact BK259.out)):gb259 ≠ gb277));have n12_:=am ((by rw [hg];exact Nat.ne_of_gt (blk_lt (g:=gb259) (o:=.cells #[.slice Ao64 x260000_2.length co64] 43 (0,0)) (by (with_reducible repeat (first|refine qn ?_ _|refine qd ?_|refine qa ?_ _));exact BK259.out)):gb277 ≠ gb259));clear HO_7;clear HO_260000;clear HO275;clear BK257;clear BK259;clear HB;have HO_7:=n0_;have HO_260000:=n1_;have HO275:=n2_;have BK257:=n3_;have BK259:=n4_;have HB:=n5_;have BK277:=n6_;have GW277:=n7_;have GE277:=n8_;have NB257_277:=n9_;have NB277_257:=n10_;have NB259_277:=n11_;have NB277_259:=n12_;clear n0_ n1_ n2_ n3_ n4_ n5_ n6_ n7_ n8_ n9_ n10_ n11_ n12_;clear hb hbox hg;obtain ⟨Ao67,co67,eo67⟩:=Kd.N_slice HO275.out;subst eo67;have hnb68:=NB277_257.out;have hnc68:=NB257_277.out;have hnb69:=NB277_259.out;have hnc69:=NB259_277.out;have hcz70_0:w66.cell? ⟨gb277,0,none⟩=some (.slice none 0 0):=(blk_cell BK277.out 0).trans rfl;have hfz70_0:=blk_frozen BK277.out 0;obtain ⟨Ao71,co71,eo71⟩:=Kd.R_slice HO_7.out;subst eo71)|((with_reducible refine gate_callee (f:=118) rfl ?_);refine goesL_ (some 75) rfl rfl Try.func118 d3 rfl #[.agg #[.slice Ao67 t273.length co67], .slice Ao71 x7_2.length co71] rfl d5 ?_;(with_reducible refine (spec_l2Apply.calls k2 _ _ t273 _ _ x7_2 t278 _ ?side1 ?side2 ?side3 ?side4 A61.out).mono ?_);(case side1=>refine (Kd.N_reads' (e:=57) (base:=w.heap.size) (ok:=fun k_=>((some k_ ≠ (.slice Ao71 x7_2.length co71:Value).ownBlock∧(some k_ ≠ (.slice Ao64 x260000_2.length co64:Value).ownBlock∧(k_ ≠ gb257∧k_ ≠ gb259)))∧k_ ≠ gb277)) (n:=t273.length) (c:=co67) ?_).2.2;exact d50);(case side2=>exact (Kd.N_reads' HO275.out).2.1);(case side3=>refine (Kd.R_reads' (e:=5) (base:=w.heap.size) (ok:=fun k_=>True) (n:=x7_2.length) (c:=co71) ?_).2.2;exact d33);(case side4=>exact (Kd.R_reads' HO_7.out).2.1);rintro e w72 ⟨v279,rfl,ho0,hb⟩;refine ⟨_,rfl,?_⟩;have n0_:=am (Kd.R_elder' d33 (Kd.R_base ho0) hb);have n1_:=am (Kd.N_elder' (by (with_reducible repeat (first|apply Kd.N_alloc|apply Kd.N_drewN|apply Kd.N_drew));exact (Kd.N_mono (Kd.N_far (p:=⟨gb277,0,none⟩) (Kd.N_mono HO_260000.out (fun k_ hk=>(⟨hk,hk.2⟩:_∧k_ ≠ gb277))) (fun _ hk=>hk.2) (.slice Ao67 t273.length co67)) (fun _ h_=>h_.1))) (Kd.R_base ho0) hb);have n2_:=am (Kd.N_elder' d50 (Kd.R_base ho0) hb);have n3_:=am (Kd.R_lower (Kd.R_new' ho0 (Kd.R_lt d33)) (pz (by repeat (first|(with_reducible first|exact HB.out|apply pa|apply pb|apply pd|refine pt ?_ GE257.out|refine pt ?_ GE259.out|refine pt ?_ GE277.out)|exact HB.out))));have n4_:=am (qb (g:=gb257) (o:=.cells #[.int .i64 a0_0, .int .i64 a0_1] 72 (0,0)) (by (with_reducible repeat (first|refine qn ?_ _|refine qd ?_|refine qa ?_ _));refine blk_far ?_ NB257_277.out _;(with_reducible repeat (first|refine qn ?_ _|refine qd ?_|refine qa ?_ _));exact BK257.out) hb);have n5_:=am (qb (g:=gb259) (o:=.cells #[.slice Ao64 x260000_2.length co64] 43 (0,0)) (by (with_reducible repeat (first|refine qn ?_ _|refine qd ?_|refine qa ?_ _));refine blk_far ?_ NB259_277.out _;(with_reducible repeat (first|refine qn ?_ _|refine qd ?_|refine qa ?_ _));exact BK259.out) hb);have n6_:=am (qb (g:=gb277) (o:=.cells #[.slice Ao67 t273.length co67] 43 (0,0)) (by (with_reducible repeat (first|refine qn ?_ _|refine qd ?_|refine qa ?_ _));refine blk_put (cs:=#[.slice none 0 0]) ?_ 0 _ rfl;(with_reducible repeat (first|refine qn ?_ _|refine qd ?_|refine qa ?_ _));exact BK277.out) hb);have n7_:=am (pu (by repeat (first|(with_reducible first|exact HB.out|apply pa|apply pb|apply pd|refine pt ?_ GE257.out|refine pt ?_ GE259.out|refine pt ?_ GE277.out)|exact HB.out)) hb);clear HO_7;clear HO_260000;clear HO275;clear BK257;clear BK259;clear BK277;clear HB;have HO_7:=n0_;have HO_260000:=n1_;have HO275:=n2_;have HO280:=n3_;have BK257:=n4_;have BK259:=n5_;have BK277:=n6_;have HB:=n7_;clear n0_ n1_ n2_ n3_ n4_ n5_ n6_ n7_;(try clear hb);(try clear hb2);(try clear hk);(try clear hi);(try clear ho0)))
      go_ret2
      exact ⟨_,d4,by (with_reducible repeat (first|apply Kd.R_alloc|apply Kd.R_drewN|apply Kd.R_drew));exact Kd.R_mono HO280.out (fun _ hk=>trivial),by repeat (first|(with_reducible first|exact HB.out|apply pa|apply pb|apply pd|refine pt ?_ GE257.out|refine pt ?_ GE259.out|refine pt ?_ GE277.out)|exact HB.out)⟩
     replace c60:=Bool.eq_false_iff.mpr c60
     subst c60
     have H1:(some (([]:List Int),false))=some (r1,r2):=by rw [if_neg (show ¬ (false=true) by decide)] at H;exact H
     clear H
     have H:=H1
     clear H1
     simp only [Option.some.injEq,Prod.mk.injEq] at H
     obtain ⟨rfl,rfl⟩:=H
     have hnb73:=NB259_257.out
     have hnc73:=NB257_259.out
     have hcz74_0:wr.cell? ⟨gb259,0,none⟩=some (u260000):=(blk_cell BK259.out 0).trans rfl
     have hfz74_0:=blk_frozen BK259.out 0
     obtain ⟨Ao75,co75,eo75⟩:=Kd.N_slice HO_260000.out
     subst eo75
     go_wp2_with (first|((with_reducible refine gate_callee (f:=91) rfl ?_);refine goesL_ (some 68) rfl rfl Try.func91 d3 rfl #[.agg #[.slice Ao75 x260000_2.length co75]] rfl d5 ?_;(with_reducible refine (spec_l2Inverse.calls _ _ x260000_2 t273 false _ ?side1 ?side2 A59.out).mono ?_);(case side1=>repeat (first|exact (Kd.N_reads' HO_260000.out).2.2|(with_reducible refine Kd.C_alloc ?_ _)|(with_reducible refine Kd.C_drewN ?_ _)|(with_reducible refine Kd.C_drew ?_)));(case side2=>exact (Kd.N_reads' HO_260000.out).2.1);rintro e w76 ⟨v274,rfl,ho0,hb⟩;refine ⟨_,rfl,?_⟩;have n0_:=am (Kd.R_below d13 hb);have n1_:=am (Kd.N_elder' d15 d63 hb);have n2_:=am (Kd.N_lower (Kd.N_mono (ok':=fun k_=>some k_ ≠ (u7:Value).ownBlock∧some k_ ≠ (.slice Ao75 x260000_2.length co75:Value).ownBlock∧k_ ≠ gb257∧k_ ≠ gb259) ho0 (fun k_ hk_=>⟨(Kd.fresh' (Kd.R_lt d13) k_ hk_),(Kd.fresh' (Kd.N_lt d15) k_ hk_),(Kd.freshB (g:=gb257) (o:=.cells #[.int .i64 a0_0, .int .i64 a0_1] 72 (0,0)) (by (with_reducible repeat (first|refine qn ?_ _|refine qd ?_|refine qa ?_ _));exact BK257.out) k_ hk_),(Kd.freshB (g:=gb259) (o:=.cells #[.slice Ao75 x260000_2.length co75] 43 (0,0)) (by (with_reducible repeat (first|refine qn ?_ _|refine qd ?_|refine qa ?_ _));exact BK259.out) k_ hk_)⟩)) (pz (by repeat (first|(with_reducible first|exact HB.out|apply pa|apply pb|apply pd|refine pt ?_ GE257.out|refine pt ?_ GE259.out)|exact HB.out))));have n3_:=am (qb (g:=gb257) (o:=.cells #[.int .i64 a0_0, .int .i64 a0_1] 72 (0,0)) (by (with_reducible repeat (first|refine qn ?_ _|refine qd ?_|refine qa ?_ _));exact BK257.out) hb);have n4_:=am (qb (g:=gb259) (o:=.cells #[.slice Ao75 x260000_2.length co75] 43 (0,0)) (by (with_reducible repeat (first|refine qn ?_ _|refine qd ?_|refine qa ?_ _));exact BK259.out) hb);have n5_:=am (pu (by repeat (first|(with_reducible first|exact HB.out|apply pa|apply pb|apply pd|refine pt ?_ GE257.out|refine pt ?_ GE259.out)|exact HB.out)) hb);clear HO_7;clear HO_260000;clear BK257;clear BK259;clear HB;have HO_7:=n0_;have HO_260000:=n1_;have HO275:=n2_;have BK257:=n3_;have BK259:=n4_;have HB:=n5_;clear n0_ n1_ n2_ n3_ n4_ n5_;(try clear hb);(try clear hb2);(try clear hk);(try clear hi);(try clear ho0))|((with_reducible refine gate_dst (N:=10) rfl ?_);(try (refine gate_guard d18 ?_;dsimp only));refine box_event ?hg (N:=10) ?hd (cs:=#[.slice none 0 0]) (t:=43) ?hr ?_;(case hd=>rfl);(case hg=>rfl);(case hr=>first|(go_simp;done)|(go_simp;rfl));intro gb277 hg w77 hbox hb;have n0_:=am (Kd.R_below d13 hb);have n1_:=am (Kd.N_below (Kd.N_elderB d15 gb277 (Nat.le_of_eq hg.symm)) hb);have n2_:=am (Kd.N_below (Kd.N_elderB (by (with_reducible repeat (first|apply Kd.N_alloc|apply Kd.N_drewN|apply Kd.N_drew));exact HO275.out) gb277 (Nat.le_of_eq hg.symm)) hb);have n3_:=am (qb (g:=gb257) (o:=.cells #[.int .i64 a0_0, .int .i64 a0_1] 72 (0,0)) (by (with_reducible repeat (first|refine qn ?_ _|refine qd ?_|refine qa ?_ _));exact BK257.out) hb);have n4_:=am (qb (g:=gb259) (o:=.cells #[.slice Ao75 x260000_2.length co75] 43 (0,0)) (by (with_reducible repeat (first|refine qn ?_ _|refine qd ?_|refine qa ?_ _));exact BK259.out) hb);have n5_:=am (pu (by repeat (first|(with_reducible first|exact HB.out|apply pa|apply pb|apply pd|refine pt ?_ GE257.out|refine pt ?_ GE259.out)|exact HB.out)) hb);have n6_:=am (hbox);have n7_:=am ((by rw [hg];exact (pz (by repeat (first|(with_reducible first|exact HB.out|apply pa|apply pb|apply pd|refine pt ?_ GE257.out|refine pt ?_ GE259.out)|exact HB.out))):w.heap.size≤gb277));have n8_:=n7_;have n9_:=am ((by rw [hg];exact Nat.ne_of_lt (blk_lt (g:=gb257) (o:=.cells #[.int .i64 a0_0, .int .i64 a0_1] 72 (0,0)) (by (with_reducible repeat (first|refine qn ?_ _|refine qd ?_|refine qa ?_ _));exact BK257.out)):gb257 ≠ gb277));have n10_:=am ((by rw [hg];exact Nat.ne_of_gt (blk_lt (g:=gb257) (o:=.cells #[.int .i64 a0_0, .int .i64 a0_1] 72 (0,0)) (by (with_reducible repeat (first|refine qn ?_ _|refine qd ?_|refine qa ?_ _));exact BK257.out)):gb277 ≠ gb257));have n11_:=am ((by rw [hg];exact Nat.ne_of_lt (blk_lt (g:=gb259) (o:=.cells #[.slice Ao75 x260000_2.length co75] 43 (0,0)) (by (with_reducible repeat (first|refine qn ?_ _|refine qd ?_|refine qa ?_ _));exact BK259.out)):gb259 ≠ gb277));have n12_:=am ((by rw [hg];exact Nat.ne_of_gt (blk_lt (g:=gb259) (o:=.cells #[.slice Ao75 x260000_2.length co75] 43 (0,0)) (by (with_reducible repeat (first|refine qn ?_ _|refine qd ?_|refine qa ?_ _));exact BK259.out)):gb277 ≠ gb259));clear HO_7;clear HO_260000;clear HO275;clear BK257;clear BK259;clear HB;have HO_7:=n0_;have HO_260000:=n1_;have HO275:=n2_;have BK257:=n3_;have BK259:=n4_;have HB:=n5_;have BK277:=n6_;have GW277:=n7_;have GE277:=n8_;have NB257_277:=n9_;have NB277_257:=n10_;have NB259_277:=n11_;have NB277_259:=n12_;clear n0_ n1_ n2_ n3_ n4_ n5_ n6_ n7_ n8_ n9_ n10_ n11_ n12_;clear hb hbox hg;obtain ⟨Ao78,co78,eo78⟩:=Kd.N_slice HO275.out;subst eo78;have hnb79:=NB277_257.out;have hnc79:=NB257_277.out;have hnb80:=NB277_259.out;have hnc80:=NB259_277.out;have hcz81_0:w77.cell? ⟨gb277,0,none⟩=some (.slice none 0 0):=(blk_cell BK277.out 0).trans rfl;have hfz81_0:=blk_frozen BK277.out 0))
     go_ret2
     exact ⟨_,d4,d16,by repeat (first|(with_reducible first|exact HB.out|apply pa|apply pb|apply pd|refine pt ?_ GE257.out|refine pt ?_ GE259.out|refine pt ?_ GE277.out)|exact HB.out)⟩

end Go.Proofs.Ytajikfnpcobnpaa.PFnExactDecodeMsr
-- HALVED
-- SQUEEZED
-- SQUEEZED2
-- SQUEEZED3
-- SQUEEZED4
-- SQUEEZED5
-- SQUEEZED6
