-- Laid by a program of this session.
import Derived.Test.YtajikfnpcobnpaaPFnExactRegeneratePiecex0
import Derived.Test.YtajikfnpcobnpaaPFnExactRegeneratePiecex8
import Derived.Test.YtajikfnpcobnpaaPFnExactRegeneratePiecex10
namespace Go.Proofs.Ytajikfnpcobnpaa.PFnExactRegeneratePiece
open Go.RowKit Go.Proofs.YtajikfnpcobnpaaW.PrintWords Go.Proofs.YtajikfnpcobnpaaW.PrintLast Go.Proofs.YtajikfnpcobnpaaW.PrintMore
attribute [local go_sem] max2_int min2_int max_two min_two max_three min_three max_four min_four   -- for this text's walks alone
set_option linter.unusedVariables false
set_option maxHeartbeats 8000000
set_option maxRecDepth 100000
set_option linter.unusedSimpArgs false

mutual
def impl_RegeneratePiece.j0:Nat→Int→List (S147)→Bool→Int→Int→Option (Int × List Int × Bool)
 | 0,_,_,_,_,_=>none
 | k+1,x1,x2,x27,x321000,x321001=>if x27=true then (some (0,([]:List Int),false)) else (impl_RegeneratePiece.l0 k x1 x2 (([]:List (List Int))) (([]:List Int)) x2 (x2.length:Int) 0 x321000 x321001)
def impl_RegeneratePiece.l0:Nat→Int→List (S147)→List (List Int)→List Int→List (S147)→Int→Int→Int→Int→Option (Int × List Int × Bool)
 | 0,_,_,_,_,_,_,_,_,_=>none
 | k+1,x1,x2,x8,x9,x31,x32,x33,x321000,x321001=>if x33 < x32 then (if 0≤x33 then (if x33 < (x31.length:Int) then ((impl_Msr_isNode.f x321000 x321001 ((rd_T147 x31 x33).f0)).bind fun t332=>(if t332=true then (if ((rd_T147 x31 x33).f0)=x1 then (some (0,([]:List Int),false)) else (if x33 > 0 then (if 0≤(wrap64 (x33 - 1)) then (if (wrap64 (x33 - 1)) < (x2.length:Int) then (if ((rd_T147 x31 x33).f0)≤((rd_T147 x2 (wrap64 (x33 - 1))).f0) then (some (0,([]:List Int),false)) else ((impl_Msr_row.f k x321000 x321001 ((rd_T147 x31 x33).f0)).bind fun t334=>(if x8.length < 5864062014805 then (if x9.length < 140737488355328 then (impl_RegeneratePiece.l0 k x1 x2 (x8 ++ [t334]) (x9 ++ [(rd_T147 x31 x33).f1]) x31 x32 (wrap64 (x33+1)) x321000 x321001) else (none)) else (none)))) else (none)) else (none)) else ((impl_Msr_row.f k x321000 x321001 ((rd_T147 x31 x33).f0)).bind fun t343=>(if x8.length < 5864062014805 then (if x9.length < 140737488355328 then (impl_RegeneratePiece.l0 k x1 x2 (x8 ++ [t343]) (x9 ++ [(rd_T147 x31 x33).f1]) x31 x32 (wrap64 (x33+1)) x321000 x321001) else (none)) else (none))))) else (some (0,([]:List Int),false)))) else (none)) else (none)) else ((impl_solve.f k x8 x9).bind fun bt352=>(if bt352.2=true then ((impl_Msr_powers.f k x321000 x321001 x1).bind fun bt356=>((impl_Msr_alpha.f x321000 x321001).bind fun t360=>(if 0≤t360 then (if t360≤(bt352.1.length:Int) then ((impl_Msr_alpha.f x321000 x321001).bind fun t365=>(if 0≤t365 then (if t365≤(bt352.1.length:Int) then ((impl_scaled.f k bt356.2 (bt352.1.drop (t365:Int).toNat)).bind fun t370=>((impl_added.f k (bt352.1.take (t360:Int).toNat) t370).bind fun t373=>(some (x1,t373,true)))) else (none)) else (none))) else (none)) else (none)))) else (some (0,([]:List Int),false))))
end
def impl_RegeneratePiece.f (k:Nat) (a0_0:Int) (a0_1:Int) (a1:Int) (l2:List (S147)):Option (Int × List Int × Bool):=(impl_Msr_isNode.f a0_0 a0_1 a1).bind fun t322=>(if t322=true then ((impl_Msr_alpha.f a0_0 a0_1).bind fun t323=>(impl_RegeneratePiece.j0 k a1 l2 ((l2.length:Int) != (wrap64 (2*t323))) a0_0 a0_1)) else (impl_RegeneratePiece.j0 k a1 l2 true a0_0 a0_1))
theorem impl_RegeneratePiece.mono_l:∀ k,(∀ y0 y1 y2 y3 y4,LeO (impl_RegeneratePiece.j0 k y0 y1 y2 y3 y4) (impl_RegeneratePiece.j0 (k+1) y0 y1 y2 y3 y4))∧(∀ y0 y1 y2 y3 y4 y5 y6 y7 y8,LeO (impl_RegeneratePiece.l0 k y0 y1 y2 y3 y4 y5 y6 y7 y8) (impl_RegeneratePiece.l0 (k+1) y0 y1 y2 y3 y4 y5 y6 y7 y8))
 | 0=>⟨fun _ _ _ _ _ r h=>by simp [impl_RegeneratePiece.j0] at h,fun _ _ _ _ _ _ _ _ _ r h=>by simp [impl_RegeneratePiece.l0] at h⟩
 | k+1=>by
  obtain ⟨ih0,ih1⟩:=impl_RegeneratePiece.mono_l k
  refine ⟨?_,?_⟩
  ·intro y0 y1 y2 y3 y4
   unfold impl_RegeneratePiece.j0
   repeat' first
   | (with_reducible exact ih0 _ _ _ _ _)
   | (with_reducible exact ih1 _ _ _ _ _ _ _ _ _)
   | (with_reducible exact impl_Msr_powers.mono _ _ _ _)
   | (with_reducible exact impl_Msr_row.mono _ _ _ _)
   | (with_reducible exact impl_added.mono _ _ _)
   | (with_reducible exact impl_scaled.mono _ _ _)
   | (with_reducible exact impl_solve.mono _ _ _)
   |(with_reducible exact LeO.refl _)|(with_reducible exact LeO.none _)|(with_reducible refine LeO.ite ?_ ?_)|(with_reducible refine LeO.bind ?_ (fun _=>?_))|exact ih0 _ _ _ _ _|exact ih1 _ _ _ _ _ _ _ _ _|exact impl_Msr_powers.mono _ _ _ _|exact impl_Msr_row.mono _ _ _ _|exact impl_added.mono _ _ _|exact impl_scaled.mono _ _ _|exact impl_solve.mono _ _ _|exact LeO.none _|refine LeO.ite ?_ ?_|refine LeO.bind ?_ (fun _=>?_)
  intro y0 y1 y2 y3 y4 y5 y6 y7 y8
  unfold impl_RegeneratePiece.l0
  repeat' first
  | (with_reducible exact ih0 _ _ _ _ _)
  | (with_reducible exact ih1 _ _ _ _ _ _ _ _ _)
  | (with_reducible exact impl_Msr_powers.mono _ _ _ _)
  | (with_reducible exact impl_Msr_row.mono _ _ _ _)
  | (with_reducible exact impl_added.mono _ _ _)
  | (with_reducible exact impl_scaled.mono _ _ _)
  | (with_reducible exact impl_solve.mono _ _ _)
  |(with_reducible exact LeO.refl _)|(with_reducible exact LeO.none _)|(with_reducible refine LeO.ite ?_ ?_)|(with_reducible refine LeO.bind ?_ (fun _=>?_))|exact ih0 _ _ _ _ _|exact ih1 _ _ _ _ _ _ _ _ _|exact impl_Msr_powers.mono _ _ _ _|exact impl_Msr_row.mono _ _ _ _|exact impl_added.mono _ _ _|exact impl_scaled.mono _ _ _|exact impl_solve.mono _ _ _|exact LeO.none _|refine LeO.ite ?_ ?_|refine LeO.bind ?_ (fun _=>?_)
theorem impl_RegeneratePiece.mono:∀ a0 a1 a2 a3 k,LeO (impl_RegeneratePiece.f k a0 a1 a2 a3) (impl_RegeneratePiece.f (k+1) a0 a1 a2 a3):=by
 intro a0 a1 a2 a3 k
 obtain ⟨ih0,ih1⟩:=impl_RegeneratePiece.mono_l k
 unfold impl_RegeneratePiece.f
 repeat' first
   | (with_reducible exact ih0 _ _ _ _ _)
   | (with_reducible exact ih1 _ _ _ _ _ _ _ _ _)
   | (with_reducible exact impl_Msr_powers.mono _ _ _ _)
   | (with_reducible exact impl_Msr_row.mono _ _ _ _)
   | (with_reducible exact impl_added.mono _ _ _)
   | (with_reducible exact impl_scaled.mono _ _ _)
   | (with_reducible exact impl_solve.mono _ _ _)
   |(with_reducible exact LeO.refl _)|(with_reducible exact LeO.none _)|(with_reducible refine LeO.ite ?_ ?_)|(with_reducible refine LeO.bind ?_ (fun _=>?_))|exact ih0 _ _ _ _ _|exact ih1 _ _ _ _ _ _ _ _ _|exact impl_Msr_powers.mono _ _ _ _|exact impl_Msr_row.mono _ _ _ _|exact impl_added.mono _ _ _|exact impl_scaled.mono _ _ _|exact impl_solve.mono _ _ _|exact LeO.none _|refine LeO.ite ?_ ?_|refine LeO.bind ?_ (fun _=>?_)
def impl_RegeneratePiece.T7:Bool × List (List Nat × List Nat):=(true,[([],[]),([],[]),([1],[1]),([0,2],[0,2]),([3],[3]),([4,3],[4]),([5],[5]),([6,5],[5,6]),([5],[5]),([7,8,5],[5,7,8]),([5,9],[5,9]),([10,5],[10]),([11],[11]),([12,11],[11,12]),([13,11,11],[11,13]),([14],[14]),([15,14],[14,15]),([14],[14]),([14],[14]),([18,14],[14,18]),([17,19,14],[14,17,19]),([20,14],[14,20]),([21,14],[14,21]),([16,22,14],[14,16,22]),([14,23,11],[11,14,23]),([11,24],[11,24])])
def impl_RegeneratePiece.B7:List Nat:=[0,0,2,7,15,31,63,127,63,511,1023,2047,4095,8191,16383,32767,65535,32767,32767,294911,950271,1998847,4095999,8388607,16777215,33554431]
theorem impl_RegeneratePiece.tab7:rtab .any (opsOf Try.f47 7)=impl_RegeneratePiece.T7:=by kernel_rfl
theorem impl_RegeneratePiece.bits7:waitsOk impl_RegeneratePiece.T7.2 impl_RegeneratePiece.B7=true:=by kernel_rfl
def impl_RegeneratePiece.T16:Bool × List (List Nat × List Nat):=(true,[([],[]),([],[]),([],[]),([2],[2]),([1,3],[1,3]),([],[]),([],[]),([],[]),([7,3],[7]),([6,8],[6,8]),([5,9,8],[5,9]),([4,10,10],[4,10]),([0,11],[0,11]),([12,11,0,1,2,3,4,5,6,7,8,9,10,11,12],[12]),([13,0,1,2,3,4,5,6,7,8,9,10,11,12,13],[])])
def impl_RegeneratePiece.B16:List Nat:=[0,0,0,4,14,0,0,0,140,460,1004,2046,4095,8191,16383]
theorem impl_RegeneratePiece.tab16:rtab .any (opsOf Try.f47 16)=impl_RegeneratePiece.T16:=by kernel_rfl
theorem impl_RegeneratePiece.bits16:waitsOk impl_RegeneratePiece.T16.2 impl_RegeneratePiece.B16=true:=by kernel_rfl
theorem impl_RegeneratePiece.calls (k:Nat) (a0_0:Int) (a0_1:Int) (a1:Int) (A2:Option Addr) (c2:Nat) (l2:List (S147)) (r1:Int) (r2:List Int) (r3:Bool) (w:World) (hr2:Kd.C k147 w A2 l2.length l2) (hc2:l2.length≤c2) (h:impl_RegeneratePiece.f k a0_0 a0_1 a1 l2=some (r1,r2,r3)) :
  Calls Try.prog 47 #[.agg #[.int .i64 a0_0, .int .i64 a0_1], .int .i64 a1, .slice A2 l2.length c2] w fun e w'=>∃ v1_:Value,e = .returned (.tuple #[.agg #[.int .i64 r1,v1_], .bool r3])∧Kd.R (Kd.int .u8) 5 w' w.heap.size (fun _=>True) v1_ r2∧Below w.heap.size w w':=by
 have hu72:=Try.underlying72
 have hu69:=Try.underlying69
 have hu147:=Try.underlying147
 have HR2:=am hr2
 have HC2:=am hc2
 clear hr2 hc2
 have HB:=am (Below.refl w.heap.size w)
 have H:((impl_Msr_isNode.f a0_0 a0_1 a1).bind fun t322=>(if t322=true then ((impl_Msr_alpha.f a0_0 a0_1).bind fun t323=>(impl_RegeneratePiece.j0 k a1 l2 ((l2.length:Int) != (wrap64 (2*t323))) a0_0 a0_1)) else (impl_RegeneratePiece.j0 k a1 l2 true a0_0 a0_1)))=some (r1,r2,r3):=h
 clear h
 have HC4:=am H
 clear H
 go_enter Try.func47,Try.ntmps47
 go_upto_region 1 with (first|((with_reducible refine gate_dst (N:=3) rfl ?_);(try (refine gate_guard d20 ?_;dsimp only));refine box_event ?hg (N:=3) ?hd (cs:=#[.int .i64 a0_0, .int .i64 a0_1]) (t:=72) ?hr ?_;(case hd=>rfl);(case hg=>rfl);(case hr=>first|(go_simp;done)|(go_simp;rfl));intro gb320 hg w5 hbox hb;have n0_:=am (pu d0 hb);have n1_:=am (hbox);have n2_:=am ((by rw [hg];exact (pz d0):w.heap.size≤gb320));have n3_:=n2_;clear HB;have HB:=n0_;have BK320:=n1_;have GW320:=n2_;have GE320:=n3_;clear n0_ n1_ n2_ n3_;clear hb hbox hg)|((with_reducible refine gate_dst (N:=6) rfl ?_);(try (refine gate_guard d20 ?_;dsimp only));refine box_event ?hg (N:=6) ?hd (cs:=#[.int .i64 0, .slice none 0 0]) (t:=69) ?hr ?_;(case hd=>rfl);(case hg=>rfl);(case hr=>first|(go_simp;done)|(go_simp;rfl));intro gb321 hg w6 hbox hb;have n0_:=am (qb (g:=gb320) (o:=.cells #[.int .i64 a0_0, .int .i64 a0_1] 72 (0,0)) (by (with_reducible repeat (first|refine qn ?_ _|refine qd ?_|refine qa ?_ _));exact BK320.out) hb);have n1_:=am (pu (by repeat (first|(with_reducible first|exact HB.out|apply pa|apply pb|apply pd|refine pt ?_ GE320.out)|exact HB.out)) hb);have n2_:=am (hbox);have n3_:=am ((by rw [hg];exact (pz (by repeat (first|(with_reducible first|exact HB.out|apply pa|apply pb|apply pd|refine pt ?_ GE320.out)|exact HB.out))):w.heap.size≤gb321));have n4_:=n3_;have n5_:=am ((by rw [hg];exact Nat.ne_of_lt (blk_lt (g:=gb320) (o:=.cells #[.int .i64 a0_0, .int .i64 a0_1] 72 (0,0)) (by (with_reducible repeat (first|refine qn ?_ _|refine qd ?_|refine qa ?_ _));exact BK320.out)):gb320 ≠ gb321));have n6_:=am ((by rw [hg];exact Nat.ne_of_gt (blk_lt (g:=gb320) (o:=.cells #[.int .i64 a0_0, .int .i64 a0_1] 72 (0,0)) (by (with_reducible repeat (first|refine qn ?_ _|refine qd ?_|refine qa ?_ _));exact BK320.out)):gb321 ≠ gb320));clear BK320;clear HB;have BK320:=n0_;have HB:=n1_;have BK321:=n2_;have GW321:=n3_;have GE321:=n4_;have NB320_321:=n5_;have NB321_320:=n6_;clear n0_ n1_ n2_ n3_ n4_ n5_ n6_;clear hb hbox hg))
 (try simp only [Act.put,q1,q2,q3])
 go_cut [27] (fun v27 wc=>∃ (kq:Nat) (x27_3:Bool),v27 = .bool x27_3∧Aside0 (impl_RegeneratePiece.j0 kq a1 l2 x27_3 a0_0 a0_1=some (r1,r2,r3))∧Aside0 (kq≤k)∧Aside0 (wc.heap[gb320]? = some (.cells #[.int .i64 a0_0, .int .i64 a0_1] 72 (0,0)))∧Aside0 (wc.heap[gb321]? = some (.cells #[.int .i64 0,(.slice none 0 0)] 69 (0,0)))∧Aside0 (Below w.heap.size w wc))
 case first =>
  have H:=HC4.out
  clear HC4
  replace H:=Option.bind_eq_some_iff.mp H
  obtain ⟨t322,A70,H⟩:=H
  replace H:(if t322=true then ((impl_Msr_alpha.f a0_0 a0_1).bind fun t323=>(impl_RegeneratePiece.j0 k a1 l2 ((l2.length:Int) != (wrap64 (2*t323))) a0_0 a0_1)) else (impl_RegeneratePiece.j0 k a1 l2 true a0_0 a0_1))=some (r1,r2,r3):=H
  have A7:=am A70
  clear A70
  by_cases c8:t322=true
  ·subst c8
   have H1:((impl_Msr_alpha.f a0_0 a0_1).bind fun t323=>(impl_RegeneratePiece.j0 k a1 l2 ((l2.length:Int) != (wrap64 (2*t323))) a0_0 a0_1))=some (r1,r2,r3):=by rw [if_pos rfl] at H;exact H
   clear H
   have H:=H1
   clear H1
   replace H:=Option.bind_eq_some_iff.mp H
   obtain ⟨t323,A90,H⟩:=H
   replace H:(impl_RegeneratePiece.j0 k a1 l2 ((l2.length:Int) != (wrap64 (2*t323))) a0_0 a0_1)=some (r1,r2,r3):=H
   have A9:=am A90
   clear A90
   have H':=am H
   clear H
   have hnb10:=NB320_321.out
   have hnc10:=NB321_320.out
   have hcz11_0:w6.cell? ⟨gb320,0,none⟩=some (.int .i64 a0_0):=(blk_cell BK320.out 0).trans rfl
   have hcz11_1:w6.cell? ⟨gb320,1,none⟩=some (.int .i64 a0_1):=(blk_cell BK320.out 1).trans rfl
   have hfz11_0:=blk_frozen BK320.out 0
   have hfz11_1:=blk_frozen BK320.out 1
   go_wp2_with (first|((with_reducible refine gate_callee (f:=127) rfl ?_);refine goesL_ (some 18) rfl rfl Try.func127 d3 rfl #[.agg #[.int .i64 a0_0, .int .i64 a0_1], .int .i64 a1] rfl d1 ?_;(with_reducible refine (impl_Msr_isNode.calls a0_0 a0_1 a1 true _ A7.out).mono ?_);rintro e w12 ⟨rfl,hb⟩;refine ⟨_,rfl,?_⟩;have n0_:=am (qb (g:=gb320) (o:=.cells #[.int .i64 a0_0, .int .i64 a0_1] 72 (0,0)) (by (with_reducible repeat (first|refine qn ?_ _|refine qd ?_|refine qa ?_ _));exact BK320.out) hb);have n1_:=am (qb (g:=gb321) (o:=.cells #[.int .i64 0, .slice none 0 0] 69 (0,0)) (by (with_reducible repeat (first|refine qn ?_ _|refine qd ?_|refine qa ?_ _));exact BK321.out) hb);have n2_:=am (pu (by repeat (first|(with_reducible first|exact HB.out|apply pa|apply pb|apply pd|refine pt ?_ GE320.out|refine pt ?_ GE321.out)|exact HB.out)) hb);clear BK320;clear BK321;clear HB;have BK320:=n0_;have BK321:=n1_;have HB:=n2_;clear n0_ n1_ n2_;(try clear hb);(try clear hb2);(try clear hk);(try clear hi);have hcz13_0:w12.cell? ⟨gb320,0,none⟩=some (.int .i64 a0_0):=(blk_cell BK320.out 0).trans rfl;have hcz13_1:w12.cell? ⟨gb320,1,none⟩=some (.int .i64 a0_1):=(blk_cell BK320.out 1).trans rfl;have hfz13_0:=blk_frozen BK320.out 0;have hfz13_1:=blk_frozen BK320.out 1)|(go_at_call 128;(with_reducible refine (impl_Msr_alpha.calls a0_0 a0_1 t323 _ A9.out).mono ?_);rintro e w14 ⟨rfl,hb⟩;have n0_:=am (qb (g:=gb320) (o:=.cells #[.int .i64 a0_0, .int .i64 a0_1] 72 (0,0)) (by (with_reducible repeat (first|refine qn ?_ _|refine qd ?_|refine qa ?_ _));exact BK320.out) hb);have n1_:=am (qb (g:=gb321) (o:=.cells #[.int .i64 0, .slice none 0 0] 69 (0,0)) (by (with_reducible repeat (first|refine qn ?_ _|refine qd ?_|refine qa ?_ _));exact BK321.out) hb);have n2_:=am (pu (by repeat (first|(with_reducible first|exact HB.out|apply pa|apply pb|apply pd|refine pt ?_ GE320.out|refine pt ?_ GE321.out)|exact HB.out)) hb);clear BK320;clear BK321;clear HB;have BK320:=n0_;have BK321:=n1_;have HB:=n2_;clear n0_ n1_ n2_;(try clear hb);(try clear hb2);(try clear hk);(try clear hi)))
   go_meet
   case rel=>exact ⟨_,(((l2.length:Int) != (wrap64 (2*t323)))),d4,H',⟨d63⟩,⟨by (with_reducible repeat (first|refine qn ?_ _|refine qd ?_|refine qa ?_ _));exact BK320.out⟩,⟨by (with_reducible repeat (first|refine qn ?_ _|refine qd ?_|refine qa ?_ _));exact BK321.out⟩,⟨by repeat (first|(with_reducible first|exact HB.out|apply pa|apply pb|apply pd|refine pt ?_ GE320.out|refine pt ?_ GE321.out)|exact HB.out)⟩⟩
  replace c8:=Bool.eq_false_iff.mpr c8
  subst c8
  have H1:(impl_RegeneratePiece.j0 k a1 l2 true a0_0 a0_1)=some (r1,r2,r3):=by rw [if_neg (show ¬ (false=true) by decide)] at H;exact H
  clear H
  have H:=H1
  clear H1
  have H':=am H
  clear H
  have hnb15:=NB320_321.out
  have hnc15:=NB321_320.out
  have hcz16_0:w6.cell? ⟨gb320,0,none⟩=some (.int .i64 a0_0):=(blk_cell BK320.out 0).trans rfl
  have hcz16_1:w6.cell? ⟨gb320,1,none⟩=some (.int .i64 a0_1):=(blk_cell BK320.out 1).trans rfl
  have hfz16_0:=blk_frozen BK320.out 0
  have hfz16_1:=blk_frozen BK320.out 1
  go_wp2_with (first|((with_reducible refine gate_callee (f:=127) rfl ?_);refine goesL_ (some 18) rfl rfl Try.func127 d3 rfl #[.agg #[.int .i64 a0_0, .int .i64 a0_1], .int .i64 a1] rfl d1 ?_;(with_reducible refine (impl_Msr_isNode.calls a0_0 a0_1 a1 false _ A7.out).mono ?_);rintro e w17 ⟨rfl,hb⟩;refine ⟨_,rfl,?_⟩;have n0_:=am (qb (g:=gb320) (o:=.cells #[.int .i64 a0_0, .int .i64 a0_1] 72 (0,0)) (by (with_reducible repeat (first|refine qn ?_ _|refine qd ?_|refine qa ?_ _));exact BK320.out) hb);have n1_:=am (qb (g:=gb321) (o:=.cells #[.int .i64 0, .slice none 0 0] 69 (0,0)) (by (with_reducible repeat (first|refine qn ?_ _|refine qd ?_|refine qa ?_ _));exact BK321.out) hb);have n2_:=am (pu (by repeat (first|(with_reducible first|exact HB.out|apply pa|apply pb|apply pd|refine pt ?_ GE320.out|refine pt ?_ GE321.out)|exact HB.out)) hb);clear BK320;clear BK321;clear HB;have BK320:=n0_;have BK321:=n1_;have HB:=n2_;clear n0_ n1_ n2_;(try clear hb);(try clear hb2);(try clear hk);(try clear hi)))
  go_meet
  case rel=>exact ⟨_,(true),d4,H',⟨d63⟩,⟨by (with_reducible repeat (first|refine qn ?_ _|refine qd ?_|refine qa ?_ _));exact BK320.out⟩,⟨by (with_reducible repeat (first|refine qn ?_ _|refine qd ?_|refine qa ?_ _));exact BK321.out⟩,⟨by repeat (first|(with_reducible first|exact HB.out|apply pa|apply pb|apply pd|refine pt ?_ GE320.out|refine pt ?_ GE321.out)|exact HB.out)⟩⟩
 case rest =>
  clear HC4
  try clear c1
  try clear c2
  try clear p2
  try clear c4
  try clear p6
  try clear c8
  try clear c10
  try clear c12
  try clear c15
  try clear hcz11_0
  try clear hcz11_1
  try clear hcz13_0
  try clear hcz13_1
  try clear hcz16_0
  try clear hcz16_1
  try clear hfz11_0
  try clear hfz11_1
  try clear hfz13_0
  try clear hfz13_1
  try clear hfz16_0
  try clear hfz16_1
  obtain ⟨kq,x27_3,rfl,HA,HJ3,BK320,BK321,HB⟩:=hcut
  cases kq with
  | zero=>exact absurd HA.out (by simp [impl_RegeneratePiece.j0])
  | succ kj3 =>
   have H:=HA.out
   clear HA
   simp only [impl_RegeneratePiece.j0] at H
   by_cases c18:x27_3=true
   ·subst c18
    have H1:(some (0,([]:List Int),false))=some (r1,r2,r3):=by rw [if_pos rfl] at H;exact H
    clear H
    have H:=H1
    clear H1
    simp only [Option.some.injEq,Prod.mk.injEq] at H
    obtain ⟨rfl,rfl,rfl⟩:=H
    have hnb19:=NB321_320.out
    have hnc19:=NB320_321.out
    have hcz20_0:wc.cell? ⟨gb321,0,none⟩=some (.int .i64 0):=(blk_cell BK321.out 0).trans rfl
    have hcz20_1:wc.cell? ⟨gb321,1,none⟩=some (.slice none 0 0):=(blk_cell BK321.out 1).trans rfl
    have hfz20_0:=blk_frozen BK321.out 0
    have hfz20_1:=blk_frozen BK321.out 1
    go_wp2
    refine bodyPost_ret (results_ct rfl _ _ gb321 69 #[.int .i64 0, .slice none 0 0] (0,0) _ rfl (by (with_reducible repeat (first|refine qn ?_ _|refine qd ?_|refine qa ?_ _));refine blk_put (cs:=#[.int .i64 0, .slice none 0 0]) ?_ 1 _ rfl;(with_reducible repeat (first|refine qn ?_ _|refine qd ?_|refine qa ?_ _));refine blk_put (cs:=#[.int .i64 0, .slice none 0 0]) ?_ 0 _ rfl;(with_reducible repeat (first|refine qn ?_ _|refine qd ?_|refine qa ?_ _));exact BK321.out) Try.underlying69 rfl d3) rfl ?_
    exact ⟨_,d5,d14,by repeat (first|(with_reducible first|exact HB.out|apply pa|apply pb|apply pd|refine pt ?_ GE320.out|refine pt ?_ GE321.out)|exact HB.out)⟩
   replace c18:=Bool.eq_false_iff.mpr c18
   subst c18
   have H1:(impl_RegeneratePiece.l0 kj3 a1 l2 (([]:List (List Int))) (([]:List Int)) l2 (l2.length:Int) 0 a0_0 a0_1)=some (r1,r2,r3):=by rw [if_neg (show ¬ (false=true) by decide)] at H;exact H
   clear H
   have H:=H1
   clear H1
   obtain ⟨y324,hy324⟩:∃ y_:List (List Int),y_=(([]:List (List Int))):=⟨_,rfl⟩
   replace H:(impl_RegeneratePiece.l0 kj3 a1 l2 y324 (([]:List Int)) l2 (l2.length:Int) 0 a0_0 a0_1)=some (r1,r2,r3):=by first|(rw [hy324];with_reducible exact H)|(have H2_:=(Option.bind_some _ _).symm.trans H;rw [hy324];with_reducible exact H2_)|(have H2_:=(Option.bind_some _ _).symm.trans H;with_reducible exact H2_)|with_reducible exact H|(rw [hy324];exact H)|exact H
   have Ny324:=am hy324
   clear hy324
   obtain ⟨y327,hy327⟩:∃ y_:List Int,y_=(([]:List Int)):=⟨_,rfl⟩
   replace H:(impl_RegeneratePiece.l0 kj3 a1 l2 y324 y327 l2 (l2.length:Int) 0 a0_0 a0_1)=some (r1,r2,r3):=by first|(rw [hy327];with_reducible exact H)|(have H2_:=(Option.bind_some _ _).symm.trans H;rw [hy327];with_reducible exact H2_)|(have H2_:=(Option.bind_some _ _).symm.trans H;with_reducible exact H2_)|with_reducible exact H|(rw [hy327];exact H)|exact H
   have Ny327:=am hy327
   clear hy327
   have H':=am H
   clear H
   go_wp2_with (first|((with_reducible refine gate_dst (N:=29) rfl ?_);(try (refine gate_guard d20 ?_;dsimp only));refine Kd.S_lit (Kd.slice 5 (Kd.int .u8)) _ 57 ?hg (N:=29) ?hd (xs:=([]:List (List Int))) (inner:=[]) (ok:=fun _=>True) (okp:=fun _=>True) ?hr ?hp (fun _ hk=>hk) trivial (Below.refl _ _) (Nat.le_refl _) d31 ?_;(case hd=>rfl);(case hg=>rfl);(case hr=>first|(go_simp;done)|(go_simp;rfl));(case hp=>exact (Reps.none _ _));intro v325 w21 ho22 hb hg_ hnew_;clear hg_ hnew_;(first|rw [← Ny324.out] at ho22|(simp only [Int.reduceToNat] at ho22;rw [← Ny324.out] at ho22));have n0_:=am (Kd.S_lower ho22 (pz (by repeat (first|(with_reducible first|exact HB.out|apply pa|apply pb|apply pd|refine pt ?_ GE320.out|refine pt ?_ GE321.out)|exact HB.out))));have n1_:=am (qb (g:=gb320) (o:=.cells #[.int .i64 a0_0, .int .i64 a0_1] 72 (0,0)) (by (with_reducible repeat (first|refine qn ?_ _|refine qd ?_|refine qa ?_ _));exact BK320.out) hb);have n2_:=am (qb (g:=gb321) (o:=.cells #[.int .i64 0, .slice none 0 0] 69 (0,0)) (by (with_reducible repeat (first|refine qn ?_ _|refine qd ?_|refine qa ?_ _));exact BK321.out) hb);have n3_:=am (pu (by repeat (first|(with_reducible first|exact HB.out|apply pa|apply pb|apply pd|refine pt ?_ GE320.out|refine pt ?_ GE321.out)|exact HB.out)) hb);clear BK320;clear BK321;clear HB;have HO326:=n0_;have BK320:=n1_;have BK321:=n2_;have HB:=n3_;clear n0_ n1_ n2_ n3_;clear hb ho22)|((with_reducible refine gate_dst (N:=30) rfl ?_);(try (refine gate_guard d20 ?_;dsimp only));refine Kd.R_lit (Kd.int .u8) _ 5 ?hg (N:=30) ?hd (xs:=([]:List Int)) (inner:=[]) (ok:=fun _=>True) (okp:=fun _=>True) ?hr ?hp (fun _ hk=>hk) trivial (Below.refl _ _) (Nat.le_refl _) d31 ?_;(case hd=>rfl);(case hg=>rfl);(case hr=>first|(go_simp;done)|(go_simp;rfl));(case hp=>exact (Reps.none _ _));intro v328 w23 ho24 hb hg_ hnew_;clear hg_ hnew_;(first|rw [← Ny327.out] at ho24|(simp only [Int.reduceToNat] at ho24;rw [← Ny327.out] at ho24));have n0_:=am (Kd.S_elder' (by (with_reducible repeat (first|apply Kd.S_alloc|apply Kd.S_drewN|apply Kd.S_drew));exact HO326.out) (Kd.R_base ho24) hb);have n1_:=am (Kd.R_lower ho24 (pz (by repeat (first|(with_reducible first|exact HB.out|apply pa|apply pb|apply pd|refine pt ?_ GE320.out|refine pt ?_ GE321.out)|exact HB.out))));have n2_:=am (qb (g:=gb320) (o:=.cells #[.int .i64 a0_0, .int .i64 a0_1] 72 (0,0)) (by (with_reducible repeat (first|refine qn ?_ _|refine qd ?_|refine qa ?_ _));exact BK320.out) hb);have n3_:=am (qb (g:=gb321) (o:=.cells #[.int .i64 0, .slice none 0 0] 69 (0,0)) (by (with_reducible repeat (first|refine qn ?_ _|refine qd ?_|refine qa ?_ _));exact BK321.out) hb);have n4_:=am (pu (by repeat (first|(with_reducible first|exact HB.out|apply pa|apply pb|apply pd|refine pt ?_ GE320.out|refine pt ?_ GE321.out)|exact HB.out)) hb);clear HO326;clear BK320;clear BK321;clear HB;have HO326:=n0_;have HO329:=n1_;have BK320:=n2_;have BK321:=n3_;have HB:=n4_;clear n0_ n1_ n2_ n3_ n4_;clear hb ho24))
   go_loopg [8,9,33] kj3 (fun kq v8 v9 v33 w'=>∃ (x8_2:List (List Int)) (x9_2:List Int) (x33_2:Int) (x322000_2:Int),v33 = .int .i64 x33_2∧Aside0 (impl_RegeneratePiece.l0 kq a1 l2 x8_2 x9_2 l2 (l2.length:Int) x33_2 a0_0 a0_1=some (r1,r2,r3))∧Aside0 (kq≤kj3)∧Aside0 (Kd.S (Kd.slice 5 (Kd.int .u8)) 57 w' w.heap.size (fun k_=>some k_ ≠ (v9:Value).ownBlock) v8 x8_2)∧Aside0 (Kd.R (Kd.int .u8) 5 w' w.heap.size (fun _=>True) v9 x9_2)∧Aside0 (w'.heap[gb320]? = some (.cells #[.int .i64 a0_0, .int .i64 a0_1] 72 (0,0)))∧Aside0 (w'.heap[gb321]? = some (.cells #[.int .i64 x322000_2,(.slice none 0 0)] 69 (0,0)))∧Aside0 (Below w.heap.size w w'))
   case atStart=>exact ⟨(y324),(y327),(0),(0),d4,H',⟨Nat.le_refl _⟩,⟨by (with_reducible repeat (first|apply Kd.S_alloc|apply Kd.S_drewN|apply Kd.S_drew));exact Kd.S_mono HO326.out (fun _ hk=>hk.2)⟩,⟨by (with_reducible repeat (first|apply Kd.R_alloc|apply Kd.R_drewN|apply Kd.R_drew));exact HO329.out⟩,⟨by (with_reducible repeat (first|refine qn ?_ _|refine qd ?_|refine qa ?_ _));exact BK320.out⟩,⟨by (with_reducible repeat (first|refine qn ?_ _|refine qd ?_|refine qa ?_ _));exact BK321.out⟩,⟨by repeat (first|(with_reducible first|exact HB.out|apply pa|apply pb|apply pd|refine pt ?_ GE320.out|refine pt ?_ GE321.out)|exact HB.out)⟩⟩
   case round =>
    clear H'
    try clear c1
    try clear c2
    try clear p2
    try clear c4
    try clear p6
    try clear c8
    try clear c10
    try clear c12
    try clear c15
    try clear c18
    try clear c19
    try clear hcz11_0
    try clear hcz11_1
    try clear hcz13_0
    try clear hcz13_1
    try clear hcz16_0
    try clear hcz16_1
    try clear hcz20_0
    try clear hcz20_1
    try clear hfz11_0
    try clear hfz11_1
    try clear hfz13_0
    try clear hfz13_1
    try clear hfz16_0
    try clear hfz16_1
    try clear hfz20_0
    try clear hfz20_1
    try clear p2
    try clear p6
    obtain ⟨x8_2,x9_2,x33_2,x322000_2,rfl,HA,HK2,HO_8,HO_9,BK320,BK321,HB⟩:=hrel
    cases gk with
    | zero=>exact absurd HA.out (by simp [impl_RegeneratePiece.l0])
    | succ k2 =>
     have H:=HA.out
     clear HA
     simp only [impl_RegeneratePiece.l0] at H
     by_cases c25:x33_2 < (l2.length:Int)
     ·rw [if_pos c25] at H
      have c25b0:decide (x33_2 < (l2.length:Int))=true:=decide_eq_true c25
      clear c25
      by_cases c26:0≤x33_2
      ·rw [if_pos c26] at H
       have c26b0:decide (0≤x33_2)=true:=decide_eq_true c26
       clear c26
       by_cases c27:x33_2 < (l2.length:Int)
       ·rw [if_pos c27] at H
        have c27b0:decide (x33_2 < (l2.length:Int))=true:=decide_eq_true c27
        clear c27
        replace H:=Option.bind_eq_some_iff.mp H
        obtain ⟨t332,A280,H⟩:=H
        replace H:(if t332=true then (if ((rd_T147 l2 x33_2).f0)=a1 then (some (0,([]:List Int),false)) else (if x33_2 > 0 then (if 0≤(wrap64 (x33_2 - 1)) then (if (wrap64 (x33_2 - 1)) < (l2.length:Int) then (if ((rd_T147 l2 x33_2).f0)≤((rd_T147 l2 (wrap64 (x33_2 - 1))).f0) then (some (0,([]:List Int),false)) else ((impl_Msr_row.f k2 a0_0 a0_1 ((rd_T147 l2 x33_2).f0)).bind fun t334=>(if x8_2.length < 5864062014805 then (if x9_2.length < 140737488355328 then (impl_RegeneratePiece.l0 k2 a1 l2 (x8_2 ++ [t334]) (x9_2 ++ [(rd_T147 l2 x33_2).f1]) l2 (l2.length:Int) (wrap64 (x33_2+1)) a0_0 a0_1) else (none)) else (none)))) else (none)) else (none)) else ((impl_Msr_row.f k2 a0_0 a0_1 ((rd_T147 l2 x33_2).f0)).bind fun t343=>(if x8_2.length < 5864062014805 then (if x9_2.length < 140737488355328 then (impl_RegeneratePiece.l0 k2 a1 l2 (x8_2 ++ [t343]) (x9_2 ++ [(rd_T147 l2 x33_2).f1]) l2 (l2.length:Int) (wrap64 (x33_2+1)) a0_0 a0_1) else (none)) else (none))))) else (some (0,([]:List Int),false)))=some (r1,r2,r3):=H
        have A28:=am A280
        clear A280
        by_cases c29:t332=true
        ·subst c29
         have H1:(if ((rd_T147 l2 x33_2).f0)=a1 then (some (0,([]:List Int),false)) else (if x33_2 > 0 then (if 0≤(wrap64 (x33_2 - 1)) then (if (wrap64 (x33_2 - 1)) < (l2.length:Int) then (if ((rd_T147 l2 x33_2).f0)≤((rd_T147 l2 (wrap64 (x33_2 - 1))).f0) then (some (0,([]:List Int),false)) else ((impl_Msr_row.f k2 a0_0 a0_1 ((rd_T147 l2 x33_2).f0)).bind fun t334=>(if x8_2.length < 5864062014805 then (if x9_2.length < 140737488355328 then (impl_RegeneratePiece.l0 k2 a1 l2 (x8_2 ++ [t334]) (x9_2 ++ [(rd_T147 l2 x33_2).f1]) l2 (l2.length:Int) (wrap64 (x33_2+1)) a0_0 a0_1) else (none)) else (none)))) else (none)) else (none)) else ((impl_Msr_row.f k2 a0_0 a0_1 ((rd_T147 l2 x33_2).f0)).bind fun t343=>(if x8_2.length < 5864062014805 then (if x9_2.length < 140737488355328 then (impl_RegeneratePiece.l0 k2 a1 l2 (x8_2 ++ [t343]) (x9_2 ++ [(rd_T147 l2 x33_2).f1]) l2 (l2.length:Int) (wrap64 (x33_2+1)) a0_0 a0_1) else (none)) else (none)))))=some (r1,r2,r3):=by rw [if_pos rfl] at H;exact H
         clear H
         have H:=H1
         clear H1
         by_cases c30:((rd_T147 l2 x33_2).f0)=a1
         ·rw [if_pos c30] at H
          have c30b0:(((rd_T147 l2 x33_2).f0) == a1)=true:=beq_iff_eq.mpr c30
          have c30b1:(((rd_T147 l2 x33_2).f0) != a1)=false:=bne_eq_false_iff_eq.mpr c30
          clear c30
          simp only [Option.some.injEq,Prod.mk.injEq] at H
          obtain ⟨rfl,rfl,rfl⟩:=H
          have p330:0≤(x33_2:Int):=od d2
          have q330:x33_2 < (l2.length:Int):=od d2
          obtain ⟨ad330,e330,hx330_0,hx330_1⟩:=at_T147 HR2.out x33_2 p330 q330
          cases e330
          replace hx330_0:=(HB.out.cell (World.block_lt_of_cell? w _ hx330_0)).trans hx330_0
          replace hx330_1:=(HB.out.cell (World.block_lt_of_cell? w _ hx330_1)).trans hx330_1
          replace p330:=eq_true p330
          replace q330:=eq_true q330
          try go_wp2_with (first|((with_reducible refine gate_dst (N:=11) rfl ?_);(try (refine gate_guard d20 ?_;dsimp only));refine box_event ?hg (N:=11) ?hd (cs:=#[.int .i64 0, .int .u8 0]) (t:=147) ?hr ?_;(case hd=>rfl);(case hg=>rfl);(case hr=>first|(go_simp;done)|(go_simp;rfl));intro gb331 hg w31 hbox hb;have n0_:=am (Kd.S_below d12 hb);have n1_:=am (Kd.R_below d7 hb);have n2_:=am (qb (g:=gb320) (o:=.cells #[.int .i64 a0_0, .int .i64 a0_1] 72 (0,0)) (by (with_reducible repeat (first|refine qn ?_ _|refine qd ?_|refine qa ?_ _));exact BK320.out) hb);have n3_:=am (qb (g:=gb321) (o:=.cells #[.int .i64 x322000_2, .slice none 0 0] 69 (0,0)) (by (with_reducible repeat (first|refine qn ?_ _|refine qd ?_|refine qa ?_ _));exact BK321.out) hb);have n4_:=am (pu (by repeat (first|(with_reducible first|exact HB.out|apply pa|apply pb|apply pd|refine pt ?_ GE320.out|refine pt ?_ GE321.out)|exact HB.out)) hb);have n5_:=am (hbox);have n6_:=am ((by rw [hg];exact (pz (by repeat (first|(with_reducible first|exact HB.out|apply pa|apply pb|apply pd|refine pt ?_ GE320.out|refine pt ?_ GE321.out)|exact HB.out))):w.heap.size≤gb331));have n7_:=n6_;have n8_:=am ((by rw [hg];exact Nat.ne_of_lt (blk_lt (g:=gb320) (o:=.cells #[.int .i64 a0_0, .int .i64 a0_1] 72 (0,0)) (by (with_reducible repeat (first|refine qn ?_ _|refine qd ?_|refine qa ?_ _));exact BK320.out)):gb320 ≠ gb331));have n9_:=am ((by rw [hg];exact Nat.ne_of_gt (blk_lt (g:=gb320) (o:=.cells #[.int .i64 a0_0, .int .i64 a0_1] 72 (0,0)) (by (with_reducible repeat (first|refine qn ?_ _|refine qd ?_|refine qa ?_ _));exact BK320.out)):gb331 ≠ gb320));have n10_:=am ((by rw [hg];exact Nat.ne_of_lt (blk_lt (g:=gb321) (o:=.cells #[.int .i64 x322000_2, .slice none 0 0] 69 (0,0)) (by (with_reducible repeat (first|refine qn ?_ _|refine qd ?_|refine qa ?_ _));exact BK321.out)):gb321 ≠ gb331));have n11_:=am ((by rw [hg];exact Nat.ne_of_gt (blk_lt (g:=gb321) (o:=.cells #[.int .i64 x322000_2, .slice none 0 0] 69 (0,0)) (by (with_reducible repeat (first|refine qn ?_ _|refine qd ?_|refine qa ?_ _));exact BK321.out)):gb331 ≠ gb321));clear HO_8;clear HO_9;clear BK320;clear BK321;clear HB;have HO_8:=n0_;have HO_9:=n1_;have BK320:=n2_;have BK321:=n3_;have HB:=n4_;have BK331:=n5_;have GW331:=n6_;have GE331:=n7_;have NB320_331:=n8_;have NB331_320:=n9_;have NB321_331:=n10_;have NB331_321:=n11_;clear n0_ n1_ n2_ n3_ n4_ n5_ n6_ n7_ n8_ n9_ n10_ n11_;clear hb hbox hg;have hnb32:=NB331_320.out;have hnc32:=NB320_331.out;have hnb33:=NB331_321.out;have hnc33:=NB321_331.out;have hcz34_0:w31.cell? ⟨gb331,0,none⟩=some (.int .i64 0):=(blk_cell BK331.out 0).trans rfl;have hcz34_1:w31.cell? ⟨gb331,1,none⟩=some (.int .u8 0):=(blk_cell BK331.out 1).trans rfl;have hfz34_0:=blk_frozen BK331.out 0;have hfz34_1:=blk_frozen BK331.out 1))
          have n0_:Aside0 (Kd.S (Kd.slice 5 (Kd.int .u8)) 57 ((w31.setCell ⟨gb331,0,none⟩ (.int .i64 ((rd_T147 l2 x33_2).f0))).setCell ⟨gb331,1,none⟩ (.int .u8 ((rd_T147 l2 x33_2).f1))) w.heap.size (fun k_=>some k_ ≠ (u9:Value).ownBlock) u8 x8_2):=⟨d19⟩
          have n1_:Aside0 (Kd.R (Kd.int .u8) 5 ((w31.setCell ⟨gb331,0,none⟩ (.int .i64 ((rd_T147 l2 x33_2).f0))).setCell ⟨gb331,1,none⟩ (.int .u8 ((rd_T147 l2 x33_2).f1))) w.heap.size (fun _=>True) u9 x9_2):=⟨d18⟩
          have n2_:Aside0 (((w31.setCell ⟨gb331,0,none⟩ (.int .i64 ((rd_T147 l2 x33_2).f0))).setCell ⟨gb331,1,none⟩ (.int .u8 ((rd_T147 l2 x33_2).f1))).heap[gb320]? = some (.cells #[.int .i64 a0_0, .int .i64 a0_1] 72 (0,0))):=⟨by (with_reducible repeat (first|refine qn ?_ _|refine qd ?_|refine qa ?_ _));refine blk_far ?_ NB320_331.out _;(with_reducible repeat (first|refine qn ?_ _|refine qd ?_|refine qa ?_ _));refine blk_far ?_ NB320_331.out _;(with_reducible repeat (first|refine qn ?_ _|refine qd ?_|refine qa ?_ _));exact BK320.out⟩
          have n3_:Aside0 (((w31.setCell ⟨gb331,0,none⟩ (.int .i64 ((rd_T147 l2 x33_2).f0))).setCell ⟨gb331,1,none⟩ (.int .u8 ((rd_T147 l2 x33_2).f1))).heap[gb321]? = some (.cells #[.int .i64 x322000_2, .slice none 0 0] 69 (0,0))):=⟨by (with_reducible repeat (first|refine qn ?_ _|refine qd ?_|refine qa ?_ _));refine blk_far ?_ NB321_331.out _;(with_reducible repeat (first|refine qn ?_ _|refine qd ?_|refine qa ?_ _));refine blk_far ?_ NB321_331.out _;(with_reducible repeat (first|refine qn ?_ _|refine qd ?_|refine qa ?_ _));exact BK321.out⟩
          have n4_:Aside0 (((w31.setCell ⟨gb331,0,none⟩ (.int .i64 ((rd_T147 l2 x33_2).f0))).setCell ⟨gb331,1,none⟩ (.int .u8 ((rd_T147 l2 x33_2).f1))).heap[gb331]? = some (.cells #[.int .i64 ((rd_T147 l2 x33_2).f0), .int .u8 ((rd_T147 l2 x33_2).f1)] 147 (0,0))):=⟨by (with_reducible repeat (first|refine qn ?_ _|refine qd ?_|refine qa ?_ _));refine blk_put (cs:=#[.int .i64 ((rd_T147 l2 x33_2).f0), .int .u8 0]) ?_ 1 _ rfl;(with_reducible repeat (first|refine qn ?_ _|refine qd ?_|refine qa ?_ _));refine blk_put (cs:=#[.int .i64 0, .int .u8 0]) ?_ 0 _ rfl;(with_reducible repeat (first|refine qn ?_ _|refine qd ?_|refine qa ?_ _));exact BK331.out⟩
          have n5_:Aside0 (Below w.heap.size w ((w31.setCell ⟨gb331,0,none⟩ (.int .i64 ((rd_T147 l2 x33_2).f0))).setCell ⟨gb331,1,none⟩ (.int .u8 ((rd_T147 l2 x33_2).f1)))):=⟨by repeat (first|(with_reducible first|exact HB.out|apply pa|apply pb|apply pd|refine pt ?_ GE320.out|refine pt ?_ GE321.out|refine pt ?_ GE331.out)|exact HB.out)⟩
          (try clear HO_8)
          (try clear HO_9)
          (try clear BK320)
          (try clear BK321)
          (try clear BK331)
          (try clear HB)
          generalize ((w31.setCell ⟨gb331,0,none⟩ (.int .i64 ((rd_T147 l2 x33_2).f0))).setCell ⟨gb331,1,none⟩ (.int .u8 ((rd_T147 l2 x33_2).f1)))=w35 at n0_ n1_ n2_ n3_ n4_ n5_ ⊢
          have HO_8:=n0_
          have HO_9:=n1_
          have BK320:=n2_
          have BK321:=n3_
          have BK331:=n4_
          have HB:=n5_
          clear n0_ n1_ n2_ n3_ n4_ n5_
          have n0_:=am (Kd.S_drew HO_8.out)
          have n1_:=am (Kd.R_drew HO_9.out)
          have n2_:=am (qd BK320.out)
          have n3_:=am (qd BK321.out)
          have n4_:=am (qd BK331.out)
          have n5_:=am (pd HB.out)
          clear HO_8
          clear HO_9
          clear BK320
          clear BK321
          clear BK331
          clear HB
          have HO_8:=n0_
          have HO_9:=n1_
          have BK320:=n2_
          have BK321:=n3_
          have BK331:=n4_
          have HB:=n5_
          clear n0_ n1_ n2_ n3_ n4_ n5_
          refine rS (n:=26) (S:=fun w'=>w'.cell? ⟨gb320,0,none⟩=some (.int .i64 a0_0)∧w'.cell? ⟨gb320,1,none⟩=some (.int .i64 a0_1)∧w'.cell? ⟨gb331,0,none⟩=some (.int .i64 ((rd_T147 l2 x33_2).f0))∧w'.cell? ⟨gb331,1,none⟩=some (.int .u8 ((rd_T147 l2 x33_2).f1))) (ds:=[]) [(1,39),(0,38),(2,40),(3,0),(4,42),(5,43),(6,44),(8,46),(7,45),(9,47),(10,48),(11,49),(12,50),(13,51),(14,52),(15,53),(16,54),(17,55),(18,56),(19,57),(20,58),(21,59),(22,60),(23,61),(24,62),(25,63)] d3 rfl impl_RegeneratePiece.tab7 impl_RegeneratePiece.bits7 ⟨(blk_cell BK320.out 0).trans rfl,(blk_cell BK320.out 1).trans rfl,(blk_cell BK331.out 0).trans rfl,(blk_cell BK331.out 1).trans rfl⟩ (fun hHeld HT_ HW_=>?_)
          generalize w35.drew=w36 at HO_8 HO_9 BK320 BK321 BK331 HB hHeld ⊢
          refine rR ?_
          refine rO (N:=some 41) HT_ rfl rfl d3 d8 (fun K hK=>?_)
          refine goes_ Try.func127 d3 rfl #[.agg #[.int .i64 a0_0, .int .i64 a0_1], .int .i64 ((rd_T147 l2 x33_2).f0)] d20 rfl rfl d1 ?_
          with_reducible refine (impl_Msr_isNode.calls a0_0 a0_1 ((rd_T147 l2 x33_2).f0) true _ A28.out).mono ?_
          rintro e w37 ⟨rfl,hb⟩
          refine ⟨_,rfl,?_⟩
          have n0_:=am (Kd.S_below d12 hb)
          have n1_:=am (Kd.R_below d7 hb)
          have n2_:=am (qb (g:=gb320) (o:=.cells #[.int .i64 a0_0, .int .i64 a0_1] 72 (0,0)) (by (with_reducible repeat (first|refine qn ?_ _|refine qd ?_|refine qa ?_ _));exact BK320.out) hb)
          have n3_:=am (qb (g:=gb321) (o:=.cells #[.int .i64 x322000_2, .slice none 0 0] 69 (0,0)) (by (with_reducible repeat (first|refine qn ?_ _|refine qd ?_|refine qa ?_ _));exact BK321.out) hb)
          have n4_:=am (qb (g:=gb331) (o:=.cells #[.int .i64 ((rd_T147 l2 x33_2).f0), .int .u8 ((rd_T147 l2 x33_2).f1)] 147 (0,0)) (by (with_reducible repeat (first|refine qn ?_ _|refine qd ?_|refine qa ?_ _));exact BK331.out) hb)
          have n5_:=am (pu (by repeat (first|(with_reducible first|exact HB.out|apply pa|apply pb|apply pd|refine pt ?_ GE320.out|refine pt ?_ GE321.out|refine pt ?_ GE331.out)|exact HB.out)) hb)
          clear HO_8
          clear HO_9
          clear BK320
          clear BK321
          clear BK331
          clear HB
          have HO_8:=n0_
          have HO_9:=n1_
          have BK320:=n2_
          have BK321:=n3_
          have BK331:=n4_
          have HB:=n5_
          clear n0_ n1_ n2_ n3_ n4_ n5_
          (try clear hb)
          (try clear hb2)
          (try clear hk)
          (try clear hi)
          refine hK.out _ _ ⟨(blk_cell BK320.out 0).trans rfl,(blk_cell BK320.out 1).trans rfl,(blk_cell BK331.out 0).trans rfl,(blk_cell BK331.out 1).trans rfl⟩ (fun hHeld=>?_)
          clear hK K
          refine rN (a':=?_) ?_ ?_
          rotate_left
          ·show Act.put _ (some 41) _=_
           simp only [Act.put,q1,q2,q3,i64_w,i32_w]
           rfl
          refine rR ?_
          refine rD HT_ d3 ?_
          have hnb38:=NB321_320.out
          have hnc38:=NB320_321.out
          have hcz39_0:w37.cell? ⟨gb321,0,none⟩=some (.int .i64 x322000_2):=(blk_cell BK321.out 0).trans rfl
          have hcz39_1:w37.cell? ⟨gb321,1,none⟩=some (.slice none 0 0):=(blk_cell BK321.out 1).trans rfl
          have hfz39_0:=blk_frozen BK321.out 0
          have hfz39_1:=blk_frozen BK321.out 1
          try go_wp2
          refine bodyPost_ret (results_ct rfl _ _ gb321 69 #[.int .i64 0, .slice none 0 0] (0,0) _ rfl (by (with_reducible repeat (first|refine qn ?_ _|refine qd ?_|refine qa ?_ _));refine blk_put (cs:=#[.int .i64 0, .slice none 0 0]) ?_ 1 _ rfl;(with_reducible repeat (first|refine qn ?_ _|refine qd ?_|refine qa ?_ _));refine blk_put (cs:=#[.int .i64 x322000_2, .slice none 0 0]) ?_ 0 _ rfl;(with_reducible repeat (first|refine qn ?_ _|refine qd ?_|refine qa ?_ _));exact BK321.out) Try.underlying69 rfl d3) rfl ?_
          exact ⟨_,d5,d14,by repeat (first|(with_reducible first|exact HB.out|apply pa|apply pb|apply pd|refine pt ?_ GE320.out|refine pt ?_ GE321.out|refine pt ?_ GE331.out)|exact HB.out)⟩
         rw [if_neg c30] at H
         have c30b0:(((rd_T147 l2 x33_2).f0) == a1)=false:=beq_eq_false_iff_ne.mpr c30
         have c30b1:(((rd_T147 l2 x33_2).f0) != a1)=true:=bne_iff_ne.mpr c30
         by_cases c40:x33_2 > 0
         ·rw [if_pos c40] at H
          have c40b0:decide (0 < x33_2)=true:=decide_eq_true c40
          clear c40
          obtain ⟨ji41,hji41⟩:∃ j_:Int,(wrap64 (x33_2 - 1))=j_:=⟨_,rfl⟩
          replace H:(if 0≤(ji41) then (if (ji41) < (l2.length:Int) then (if ((rd_T147 l2 x33_2).f0)≤((rd_T147 l2 (ji41)).f0) then (some (0,([]:List Int),false)) else ((impl_Msr_row.f k2 a0_0 a0_1 ((rd_T147 l2 x33_2).f0)).bind fun t334=>(if x8_2.length < 5864062014805 then (if x9_2.length < 140737488355328 then (impl_RegeneratePiece.l0 k2 a1 l2 (x8_2 ++ [t334]) (x9_2 ++ [(rd_T147 l2 x33_2).f1]) l2 (l2.length:Int) (wrap64 (x33_2+1)) a0_0 a0_1) else (none)) else (none)))) else (none)) else (none))=some (r1,r2,r3):=by first|(rw [hji41] at H;exact H)|(simp only [hji41] at H ⊢;exact H)
          (try rw [hji41] at A28)
          have hji41w:(IntKind.i64.wrap (x33_2 - 1))=ji41:=(i64_w _).trans hji41
          by_cases c42:0≤(ji41)
          ·rw [if_pos c42] at H
           have c42b0:decide (0≤(ji41))=true:=decide_eq_true c42
           clear c42
           by_cases c43:(ji41) < (l2.length:Int)
           ·rw [if_pos c43] at H
            have c43b0:decide ((ji41) < (l2.length:Int))=true:=decide_eq_true c43
            clear c43
            by_cases c44:((rd_T147 l2 x33_2).f0)≤((rd_T147 l2 (ji41)).f0)
            ·rw [if_pos c44] at H
             have c44b0:decide (((rd_T147 l2 x33_2).f0)≤((rd_T147 l2 (ji41)).f0))=true:=decide_eq_true c44
             clear c44
             simp only [Option.some.injEq,Prod.mk.injEq] at H
             obtain ⟨rfl,rfl,rfl⟩:=H
             have p330:0≤(x33_2:Int):=od d2
             have q330:x33_2 < (l2.length:Int):=od d2
             obtain ⟨ad330,e330,hx330_0,hx330_1⟩:=at_T147 HR2.out x33_2 p330 q330
             cases e330
             replace hx330_0:=(HB.out.cell (World.block_lt_of_cell? w _ hx330_0)).trans hx330_0
             replace hx330_1:=(HB.out.cell (World.block_lt_of_cell? w _ hx330_1)).trans hx330_1
             replace p330:=eq_true p330
             replace q330:=eq_true q330
             try go_wp2_with (first|((with_reducible refine gate_dst (N:=11) rfl ?_);(try (refine gate_guard d20 ?_;dsimp only));refine box_event ?hg (N:=11) ?hd (cs:=#[.int .i64 0, .int .u8 0]) (t:=147) ?hr ?_;(case hd=>rfl);(case hg=>rfl);(case hr=>first|(go_simp;done)|(go_simp;rfl));intro gb331 hg w45 hbox hb;have n0_:=am (Kd.S_below d12 hb);have n1_:=am (Kd.R_below d7 hb);have n2_:=am (qb (g:=gb320) (o:=.cells #[.int .i64 a0_0, .int .i64 a0_1] 72 (0,0)) (by (with_reducible repeat (first|refine qn ?_ _|refine qd ?_|refine qa ?_ _));exact BK320.out) hb);have n3_:=am (qb (g:=gb321) (o:=.cells #[.int .i64 x322000_2, .slice none 0 0] 69 (0,0)) (by (with_reducible repeat (first|refine qn ?_ _|refine qd ?_|refine qa ?_ _));exact BK321.out) hb);have n4_:=am (pu (by repeat (first|(with_reducible first|exact HB.out|apply pa|apply pb|apply pd|refine pt ?_ GE320.out|refine pt ?_ GE321.out)|exact HB.out)) hb);have n5_:=am (hbox);have n6_:=am ((by rw [hg];exact (pz (by repeat (first|(with_reducible first|exact HB.out|apply pa|apply pb|apply pd|refine pt ?_ GE320.out|refine pt ?_ GE321.out)|exact HB.out))):w.heap.size≤gb331));have n7_:=n6_;have n8_:=am ((by rw [hg];exact Nat.ne_of_lt (blk_lt (g:=gb320) (o:=.cells #[.int .i64 a0_0, .int .i64 a0_1] 72 (0,0)) (by (with_reducible repeat (first|refine qn ?_ _|refine qd ?_|refine qa ?_ _));exact BK320.out)):gb320 ≠ gb331));have n9_:=am ((by rw [hg];exact Nat.ne_of_gt (blk_lt (g:=gb320) (o:=.cells #[.int .i64 a0_0, .int .i64 a0_1] 72 (0,0)) (by (with_reducible repeat (first|refine qn ?_ _|refine qd ?_|refine qa ?_ _));exact BK320.out)):gb331 ≠ gb320));have n10_:=am ((by rw [hg];exact Nat.ne_of_lt (blk_lt (g:=gb321) (o:=.cells #[.int .i64 x322000_2, .slice none 0 0] 69 (0,0)) (by (with_reducible repeat (first|refine qn ?_ _|refine qd ?_|refine qa ?_ _));exact BK321.out)):gb321 ≠ gb331));have n11_:=am ((by rw [hg];exact Nat.ne_of_gt (blk_lt (g:=gb321) (o:=.cells #[.int .i64 x322000_2, .slice none 0 0] 69 (0,0)) (by (with_reducible repeat (first|refine qn ?_ _|refine qd ?_|refine qa ?_ _));exact BK321.out)):gb331 ≠ gb321));clear HO_8;clear HO_9;clear BK320;clear BK321;clear HB;have HO_8:=n0_;have HO_9:=n1_;have BK320:=n2_;have BK321:=n3_;have HB:=n4_;have BK331:=n5_;have GW331:=n6_;have GE331:=n7_;have NB320_331:=n8_;have NB331_320:=n9_;have NB321_331:=n10_;have NB331_321:=n11_;clear n0_ n1_ n2_ n3_ n4_ n5_ n6_ n7_ n8_ n9_ n10_ n11_;clear hb hbox hg;have hnb46:=NB331_320.out;have hnc46:=NB320_331.out;have hnb47:=NB331_321.out;have hnc47:=NB321_331.out;have hcz48_0:w45.cell? ⟨gb331,0,none⟩=some (.int .i64 0):=(blk_cell BK331.out 0).trans rfl;have hcz48_1:w45.cell? ⟨gb331,1,none⟩=some (.int .u8 0):=(blk_cell BK331.out 1).trans rfl;have hfz48_0:=blk_frozen BK331.out 0;have hfz48_1:=blk_frozen BK331.out 1))
             have n0_:Aside0 (Kd.S (Kd.slice 5 (Kd.int .u8)) 57 ((w45.setCell ⟨gb331,0,none⟩ (.int .i64 ((rd_T147 l2 x33_2).f0))).setCell ⟨gb331,1,none⟩ (.int .u8 ((rd_T147 l2 x33_2).f1))) w.heap.size (fun k_=>some k_ ≠ (u9:Value).ownBlock) u8 x8_2):=⟨d19⟩
             have n1_:Aside0 (Kd.R (Kd.int .u8) 5 ((w45.setCell ⟨gb331,0,none⟩ (.int .i64 ((rd_T147 l2 x33_2).f0))).setCell ⟨gb331,1,none⟩ (.int .u8 ((rd_T147 l2 x33_2).f1))) w.heap.size (fun _=>True) u9 x9_2):=⟨d18⟩
             have n2_:Aside0 (((w45.setCell ⟨gb331,0,none⟩ (.int .i64 ((rd_T147 l2 x33_2).f0))).setCell ⟨gb331,1,none⟩ (.int .u8 ((rd_T147 l2 x33_2).f1))).heap[gb320]? = some (.cells #[.int .i64 a0_0, .int .i64 a0_1] 72 (0,0))):=⟨by (with_reducible repeat (first|refine qn ?_ _|refine qd ?_|refine qa ?_ _));refine blk_far ?_ NB320_331.out _;(with_reducible repeat (first|refine qn ?_ _|refine qd ?_|refine qa ?_ _));refine blk_far ?_ NB320_331.out _;(with_reducible repeat (first|refine qn ?_ _|refine qd ?_|refine qa ?_ _));exact BK320.out⟩
             have n3_:Aside0 (((w45.setCell ⟨gb331,0,none⟩ (.int .i64 ((rd_T147 l2 x33_2).f0))).setCell ⟨gb331,1,none⟩ (.int .u8 ((rd_T147 l2 x33_2).f1))).heap[gb321]? = some (.cells #[.int .i64 x322000_2, .slice none 0 0] 69 (0,0))):=⟨by (with_reducible repeat (first|refine qn ?_ _|refine qd ?_|refine qa ?_ _));refine blk_far ?_ NB321_331.out _;(with_reducible repeat (first|refine qn ?_ _|refine qd ?_|refine qa ?_ _));refine blk_far ?_ NB321_331.out _;(with_reducible repeat (first|refine qn ?_ _|refine qd ?_|refine qa ?_ _));exact BK321.out⟩
             have n4_:Aside0 (((w45.setCell ⟨gb331,0,none⟩ (.int .i64 ((rd_T147 l2 x33_2).f0))).setCell ⟨gb331,1,none⟩ (.int .u8 ((rd_T147 l2 x33_2).f1))).heap[gb331]? = some (.cells #[.int .i64 ((rd_T147 l2 x33_2).f0), .int .u8 ((rd_T147 l2 x33_2).f1)] 147 (0,0))):=⟨by (with_reducible repeat (first|refine qn ?_ _|refine qd ?_|refine qa ?_ _));refine blk_put (cs:=#[.int .i64 ((rd_T147 l2 x33_2).f0), .int .u8 0]) ?_ 1 _ rfl;(with_reducible repeat (first|refine qn ?_ _|refine qd ?_|refine qa ?_ _));refine blk_put (cs:=#[.int .i64 0, .int .u8 0]) ?_ 0 _ rfl;(with_reducible repeat (first|refine qn ?_ _|refine qd ?_|refine qa ?_ _));exact BK331.out⟩
             have n5_:Aside0 (Below w.heap.size w ((w45.setCell ⟨gb331,0,none⟩ (.int .i64 ((rd_T147 l2 x33_2).f0))).setCell ⟨gb331,1,none⟩ (.int .u8 ((rd_T147 l2 x33_2).f1)))):=⟨by repeat (first|(with_reducible first|exact HB.out|apply pa|apply pb|apply pd|refine pt ?_ GE320.out|refine pt ?_ GE321.out|refine pt ?_ GE331.out)|exact HB.out)⟩
             (try clear HO_8)
             (try clear HO_9)
             (try clear BK320)
             (try clear BK321)
             (try clear BK331)
             (try clear HB)
             generalize ((w45.setCell ⟨gb331,0,none⟩ (.int .i64 ((rd_T147 l2 x33_2).f0))).setCell ⟨gb331,1,none⟩ (.int .u8 ((rd_T147 l2 x33_2).f1)))=w49 at n0_ n1_ n2_ n3_ n4_ n5_ ⊢
             have HO_8:=n0_
             have HO_9:=n1_
             have BK320:=n2_
             have BK321:=n3_
             have BK331:=n4_
             have HB:=n5_
             clear n0_ n1_ n2_ n3_ n4_ n5_
             have n0_:=am (Kd.S_drew HO_8.out)
             have n1_:=am (Kd.R_drew HO_9.out)
             have n2_:=am (qd BK320.out)
             have n3_:=am (qd BK321.out)
             have n4_:=am (qd BK331.out)
             have n5_:=am (pd HB.out)
             clear HO_8
             clear HO_9
             clear BK320
             clear BK321
             clear BK331
             clear HB
             have HO_8:=n0_
             have HO_9:=n1_
             have BK320:=n2_
             have BK321:=n3_
             have BK331:=n4_
             have HB:=n5_
             clear n0_ n1_ n2_ n3_ n4_ n5_
             have p333:0≤((ji41):Int):=od d2
             have q333:(ji41) < (l2.length:Int):=od d2
             obtain ⟨ad333,e333,hx333_0,hx333_1⟩:=at_T147 HR2.out (ji41) p333 q333
             have hw333_1:=hx333_1
             have hw333_0:=hx333_0
             obtain rfl:ad330=ad333:=(by injection e333)
             replace hx333_0:=(HB.out.cell (World.block_lt_of_cell? w _ hx333_0)).trans hx333_0
             replace hx333_1:=(HB.out.cell (World.block_lt_of_cell? w _ hx333_1)).trans hx333_1
             replace p333:=eq_true p333
             replace q333:=eq_true q333
             refine rS (n:=26) (S:=fun w'=>w'.cell? ⟨gb320,0,none⟩=some (.int .i64 a0_0)∧w'.cell? ⟨gb320,1,none⟩=some (.int .i64 a0_1)∧w'.cell? ⟨gb331,0,none⟩=some (.int .i64 ((rd_T147 l2 x33_2).f0))∧w'.cell? ⟨gb331,1,none⟩=some (.int .u8 ((rd_T147 l2 x33_2).f1))∧w'.cell? (ad330.add (((ji41)).toNat*2))=some (.int .i64 ((rd_T147 l2 (ji41)).f0))∧w'.cell? ⟨(ad330.add (((ji41)).toNat*2)).block,(ad330.add (((ji41)).toNat*2)).off+1,none⟩=some (.int .u8 ((rd_T147 l2 (ji41)).f1))) (ds:=[]) [(1,39),(0,38),(2,40),(3,0),(4,42),(5,43),(6,44),(8,46),(7,45),(9,47),(10,48),(11,49),(12,50),(13,51),(14,52),(15,53),(17,55),(18,56),(19,57),(20,58),(21,59),(16,54),(22,60),(23,61),(24,62),(25,63)] d3 rfl impl_RegeneratePiece.tab7 impl_RegeneratePiece.bits7 ⟨(blk_cell BK320.out 0).trans rfl,(blk_cell BK320.out 1).trans rfl,(blk_cell BK331.out 0).trans rfl,(blk_cell BK331.out 1).trans rfl,((HB.out.cell (World.block_lt_of_cell? w _ hw333_0)).trans hw333_0),((HB.out.cell (World.block_lt_of_cell? w _ hw333_1)).trans hw333_1)⟩ (fun hHeld HT_ HW_=>?_)
             generalize w49.drew=w50 at HO_8 HO_9 BK320 BK321 BK331 HB hx333_0 hx333_1 hHeld ⊢
             refine rR ?_
             refine rO (N:=some 41) HT_ rfl rfl d3 d8 (fun K hK=>?_)
             refine goes_ Try.func127 d3 rfl #[.agg #[.int .i64 a0_0, .int .i64 a0_1], .int .i64 ((rd_T147 l2 x33_2).f0)] d20 rfl rfl d1 ?_
             with_reducible refine (impl_Msr_isNode.calls a0_0 a0_1 ((rd_T147 l2 x33_2).f0) true _ A28.out).mono ?_
             rintro e w51 ⟨rfl,hb⟩
             refine ⟨_,rfl,?_⟩
             have n0_:=am (Kd.S_below d12 hb)
             have n1_:=am (Kd.R_below d7 hb)
             have n2_:=am (qb (g:=gb320) (o:=.cells #[.int .i64 a0_0, .int .i64 a0_1] 72 (0,0)) (by (with_reducible repeat (first|refine qn ?_ _|refine qd ?_|refine qa ?_ _));exact BK320.out) hb)
             have n3_:=am (qb (g:=gb321) (o:=.cells #[.int .i64 x322000_2, .slice none 0 0] 69 (0,0)) (by (with_reducible repeat (first|refine qn ?_ _|refine qd ?_|refine qa ?_ _));exact BK321.out) hb)
             have n4_:=am (qb (g:=gb331) (o:=.cells #[.int .i64 ((rd_T147 l2 x33_2).f0), .int .u8 ((rd_T147 l2 x33_2).f1)] 147 (0,0)) (by (with_reducible repeat (first|refine qn ?_ _|refine qd ?_|refine qa ?_ _));exact BK331.out) hb)
             have n5_:=am (pu (by repeat (first|(with_reducible first|exact HB.out|apply pa|apply pb|apply pd|refine pt ?_ GE320.out|refine pt ?_ GE321.out|refine pt ?_ GE331.out)|exact HB.out)) hb)
             clear HO_8
             clear HO_9
             clear BK320
             clear BK321
             clear BK331
             clear HB
             have HO_8:=n0_
             have HO_9:=n1_
             have BK320:=n2_
             have BK321:=n3_
             have BK331:=n4_
             have HB:=n5_
             clear n0_ n1_ n2_ n3_ n4_ n5_
             (try clear hb)
             (try clear hb2)
             (try clear hk)
             (try clear hi)
             refine hK.out _ _ ⟨(blk_cell BK320.out 0).trans rfl,(blk_cell BK320.out 1).trans rfl,(blk_cell BK331.out 0).trans rfl,(blk_cell BK331.out 1).trans rfl,((HB.out.cell (World.block_lt_of_cell? w _ hw333_0)).trans hw333_0),((HB.out.cell (World.block_lt_of_cell? w _ hw333_1)).trans hw333_1)⟩ (fun hHeld=>?_)
             clear hK K
             refine rN (a':=?_) ?_ ?_
             rotate_left
             ·show Act.put _ (some 41) _=_
              simp only [Act.put,q1,q2,q3,i64_w,i32_w]
              rfl
             refine rR ?_
             refine rD HT_ d3 ?_
             have hnb52:=NB321_320.out
             have hnc52:=NB320_321.out
             have hcz53_0:w51.cell? ⟨gb321,0,none⟩=some (.int .i64 x322000_2):=(blk_cell BK321.out 0).trans rfl
             have hcz53_1:w51.cell? ⟨gb321,1,none⟩=some (.slice none 0 0):=(blk_cell BK321.out 1).trans rfl
             have hfz53_0:=blk_frozen BK321.out 0
             have hfz53_1:=blk_frozen BK321.out 1
             try go_wp2
             refine bodyPost_ret (results_ct rfl _ _ gb321 69 #[.int .i64 0, .slice none 0 0] (0,0) _ rfl (by (with_reducible repeat (first|refine qn ?_ _|refine qd ?_|refine qa ?_ _));refine blk_put (cs:=#[.int .i64 0, .slice none 0 0]) ?_ 1 _ rfl;(with_reducible repeat (first|refine qn ?_ _|refine qd ?_|refine qa ?_ _));refine blk_put (cs:=#[.int .i64 x322000_2, .slice none 0 0]) ?_ 0 _ rfl;(with_reducible repeat (first|refine qn ?_ _|refine qd ?_|refine qa ?_ _));exact BK321.out) Try.underlying69 rfl d3) rfl ?_
             exact ⟨_,by first|rfl|(simp [errW_none,errW_some] <;> rfl)|(simp only [← hji41];first|rfl|(simp [errW_none,errW_some] <;> rfl))|(simp [*,errW_none,errW_some] <;> rfl),d14,by repeat (first|(with_reducible first|exact HB.out|apply pa|apply pb|apply pd|refine pt ?_ GE320.out|refine pt ?_ GE321.out|refine pt ?_ GE331.out)|exact HB.out)⟩
            rw [if_neg c44] at H
            have c44b0:decide (((rd_T147 l2 x33_2).f0)≤((rd_T147 l2 (ji41)).f0))=false:=decide_eq_false c44
            clear c44
            replace H:=Option.bind_eq_some_iff.mp H
            obtain ⟨t334,A540,H⟩:=H
            replace H:(if x8_2.length < 5864062014805 then (if x9_2.length < 140737488355328 then (impl_RegeneratePiece.l0 k2 a1 l2 (x8_2 ++ [t334]) (x9_2 ++ [(rd_T147 l2 x33_2).f1]) l2 (l2.length:Int) (wrap64 (x33_2+1)) a0_0 a0_1) else (none)) else (none))=some (r1,r2,r3):=H
            have A54:=am A540
            clear A540
            by_cases c55:x8_2.length < 5864062014805
            ·rw [if_pos c55] at H
             have LMc55:=am c55
             clear c55
             obtain ⟨y337,hy337⟩:∃ y_:List (List Int),y_=(x8_2 ++ [t334]):=⟨_,rfl⟩
             replace H:(if x9_2.length < 140737488355328 then (impl_RegeneratePiece.l0 k2 a1 l2 y337 (x9_2 ++ [(rd_T147 l2 x33_2).f1]) l2 (l2.length:Int) (wrap64 (x33_2+1)) a0_0 a0_1) else (none))=some (r1,r2,r3):=by first|(rw [hy337];with_reducible exact H)|(have H2_:=(Option.bind_some _ _).symm.trans H;rw [hy337];with_reducible exact H2_)|(have H2_:=(Option.bind_some _ _).symm.trans H;with_reducible exact H2_)|with_reducible exact H|(rw [hy337];exact H)|exact H
             have Ny337:=am hy337
             clear hy337
             by_cases c56:x9_2.length < 140737488355328
             ·rw [if_pos c56] at H
              have LMc56:=am c56
              clear c56
              obtain ⟨y340,hy340⟩:∃ y_:List Int,y_=(x9_2 ++ [(rd_T147 l2 x33_2).f1]):=⟨_,rfl⟩
              replace H:(impl_RegeneratePiece.l0 k2 a1 l2 y337 y340 l2 (l2.length:Int) (wrap64 (x33_2+1)) a0_0 a0_1)=some (r1,r2,r3):=by first|(rw [hy340];with_reducible exact H)|(have H2_:=(Option.bind_some _ _).symm.trans H;rw [hy340];with_reducible exact H2_)|(have H2_:=(Option.bind_some _ _).symm.trans H;with_reducible exact H2_)|with_reducible exact H|(rw [hy340];exact H)|exact H
              have Ny340:=am hy340
              clear hy340
              have H':=am H
              clear H
              have p330:0≤(x33_2:Int):=od d2
              have q330:x33_2 < (l2.length:Int):=od d2
              obtain ⟨ad330,e330,hx330_0,hx330_1⟩:=at_T147 HR2.out x33_2 p330 q330
              cases e330
              replace hx330_0:=(HB.out.cell (World.block_lt_of_cell? w _ hx330_0)).trans hx330_0
              replace hx330_1:=(HB.out.cell (World.block_lt_of_cell? w _ hx330_1)).trans hx330_1
              replace p330:=eq_true p330
              replace q330:=eq_true q330
              try go_wp2_with (first|((with_reducible refine gate_dst (N:=11) rfl ?_);(try (refine gate_guard d20 ?_;dsimp only));refine box_event ?hg (N:=11) ?hd (cs:=#[.int .i64 0, .int .u8 0]) (t:=147) ?hr ?_;(case hd=>rfl);(case hg=>rfl);(case hr=>first|(go_simp;done)|(go_simp;rfl));intro gb331 hg w57 hbox hb;have n0_:=am (Kd.S_below d12 hb);have n1_:=am (Kd.R_below d7 hb);have n2_:=am (qb (g:=gb320) (o:=.cells #[.int .i64 a0_0, .int .i64 a0_1] 72 (0,0)) (by (with_reducible repeat (first|refine qn ?_ _|refine qd ?_|refine qa ?_ _));exact BK320.out) hb);have n3_:=am (qb (g:=gb321) (o:=.cells #[.int .i64 x322000_2, .slice none 0 0] 69 (0,0)) (by (with_reducible repeat (first|refine qn ?_ _|refine qd ?_|refine qa ?_ _));exact BK321.out) hb);have n4_:=am (pu (by repeat (first|(with_reducible first|exact HB.out|apply pa|apply pb|apply pd|refine pt ?_ GE320.out|refine pt ?_ GE321.out)|exact HB.out)) hb);have n5_:=am (hbox);have n6_:=am ((by rw [hg];exact (pz (by repeat (first|(with_reducible first|exact HB.out|apply pa|apply pb|apply pd|refine pt ?_ GE320.out|refine pt ?_ GE321.out)|exact HB.out))):w.heap.size≤gb331));have n7_:=n6_;have n8_:=am ((by rw [hg];exact Nat.ne_of_lt (blk_lt (g:=gb320) (o:=.cells #[.int .i64 a0_0, .int .i64 a0_1] 72 (0,0)) (by (with_reducible repeat (first|refine qn ?_ _|refine qd ?_|refine qa ?_ _));exact BK320.out)):gb320 ≠ gb331));have n9_:=am ((by rw [hg];exact Nat.ne_of_gt (blk_lt (g:=gb320) (o:=.cells #[.int .i64 a0_0, .int .i64 a0_1] 72 (0,0)) (by (with_reducible repeat (first|refine qn ?_ _|refine qd ?_|refine qa ?_ _));exact BK320.out)):gb331 ≠ gb320));have n10_:=am ((by rw [hg];exact Nat.ne_of_lt (blk_lt (g:=gb321) (o:=.cells #[.int .i64 x322000_2, .slice none 0 0] 69 (0,0)) (by (with_reducible repeat (first|refine qn ?_ _|refine qd ?_|refine qa ?_ _));exact BK321.out)):gb321 ≠ gb331));have n11_:=am ((by rw [hg];exact Nat.ne_of_gt (blk_lt (g:=gb321) (o:=.cells #[.int .i64 x322000_2, .slice none 0 0] 69 (0,0)) (by (with_reducible repeat (first|refine qn ?_ _|refine qd ?_|refine qa ?_ _));exact BK321.out)):gb331 ≠ gb321));clear HO_8;clear HO_9;clear BK320;clear BK321;clear HB;have HO_8:=n0_;have HO_9:=n1_;have BK320:=n2_;have BK321:=n3_;have HB:=n4_;have BK331:=n5_;have GW331:=n6_;have GE331:=n7_;have NB320_331:=n8_;have NB331_320:=n9_;have NB321_331:=n10_;have NB331_321:=n11_;clear n0_ n1_ n2_ n3_ n4_ n5_ n6_ n7_ n8_ n9_ n10_ n11_;clear hb hbox hg;have hnb58:=NB331_320.out;have hnc58:=NB320_331.out;have hnb59:=NB331_321.out;have hnc59:=NB321_331.out;have hcz60_0:w57.cell? ⟨gb331,0,none⟩=some (.int .i64 0):=(blk_cell BK331.out 0).trans rfl;have hcz60_1:w57.cell? ⟨gb331,1,none⟩=some (.int .u8 0):=(blk_cell BK331.out 1).trans rfl;have hfz60_0:=blk_frozen BK331.out 0;have hfz60_1:=blk_frozen BK331.out 1))
              have n0_:Aside0 (Kd.S (Kd.slice 5 (Kd.int .u8)) 57 ((w57.setCell ⟨gb331,0,none⟩ (.int .i64 ((rd_T147 l2 x33_2).f0))).setCell ⟨gb331,1,none⟩ (.int .u8 ((rd_T147 l2 x33_2).f1))) w.heap.size (fun k_=>some k_ ≠ (u9:Value).ownBlock) u8 x8_2):=⟨d19⟩
              have n1_:Aside0 (Kd.R (Kd.int .u8) 5 ((w57.setCell ⟨gb331,0,none⟩ (.int .i64 ((rd_T147 l2 x33_2).f0))).setCell ⟨gb331,1,none⟩ (.int .u8 ((rd_T147 l2 x33_2).f1))) w.heap.size (fun _=>True) u9 x9_2):=⟨d18⟩
              have n2_:Aside0 (((w57.setCell ⟨gb331,0,none⟩ (.int .i64 ((rd_T147 l2 x33_2).f0))).setCell ⟨gb331,1,none⟩ (.int .u8 ((rd_T147 l2 x33_2).f1))).heap[gb320]? = some (.cells #[.int .i64 a0_0, .int .i64 a0_1] 72 (0,0))):=⟨by (with_reducible repeat (first|refine qn ?_ _|refine qd ?_|refine qa ?_ _));refine blk_far ?_ NB320_331.out _;(with_reducible repeat (first|refine qn ?_ _|refine qd ?_|refine qa ?_ _));refine blk_far ?_ NB320_331.out _;(with_reducible repeat (first|refine qn ?_ _|refine qd ?_|refine qa ?_ _));exact BK320.out⟩
              have n3_:Aside0 (((w57.setCell ⟨gb331,0,none⟩ (.int .i64 ((rd_T147 l2 x33_2).f0))).setCell ⟨gb331,1,none⟩ (.int .u8 ((rd_T147 l2 x33_2).f1))).heap[gb321]? = some (.cells #[.int .i64 x322000_2, .slice none 0 0] 69 (0,0))):=⟨by (with_reducible repeat (first|refine qn ?_ _|refine qd ?_|refine qa ?_ _));refine blk_far ?_ NB321_331.out _;(with_reducible repeat (first|refine qn ?_ _|refine qd ?_|refine qa ?_ _));refine blk_far ?_ NB321_331.out _;(with_reducible repeat (first|refine qn ?_ _|refine qd ?_|refine qa ?_ _));exact BK321.out⟩
              have n4_:Aside0 (((w57.setCell ⟨gb331,0,none⟩ (.int .i64 ((rd_T147 l2 x33_2).f0))).setCell ⟨gb331,1,none⟩ (.int .u8 ((rd_T147 l2 x33_2).f1))).heap[gb331]? = some (.cells #[.int .i64 ((rd_T147 l2 x33_2).f0), .int .u8 ((rd_T147 l2 x33_2).f1)] 147 (0,0))):=⟨by (with_reducible repeat (first|refine qn ?_ _|refine qd ?_|refine qa ?_ _));refine blk_put (cs:=#[.int .i64 ((rd_T147 l2 x33_2).f0), .int .u8 0]) ?_ 1 _ rfl;(with_reducible repeat (first|refine qn ?_ _|refine qd ?_|refine qa ?_ _));refine blk_put (cs:=#[.int .i64 0, .int .u8 0]) ?_ 0 _ rfl;(with_reducible repeat (first|refine qn ?_ _|refine qd ?_|refine qa ?_ _));exact BK331.out⟩
              have n5_:Aside0 (Below w.heap.size w ((w57.setCell ⟨gb331,0,none⟩ (.int .i64 ((rd_T147 l2 x33_2).f0))).setCell ⟨gb331,1,none⟩ (.int .u8 ((rd_T147 l2 x33_2).f1)))):=⟨by repeat (first|(with_reducible first|exact HB.out|apply pa|apply pb|apply pd|refine pt ?_ GE320.out|refine pt ?_ GE321.out|refine pt ?_ GE331.out)|exact HB.out)⟩
              (try clear HO_8)
              (try clear HO_9)
              (try clear BK320)
              (try clear BK321)
              (try clear BK331)
              (try clear HB)
              generalize ((w57.setCell ⟨gb331,0,none⟩ (.int .i64 ((rd_T147 l2 x33_2).f0))).setCell ⟨gb331,1,none⟩ (.int .u8 ((rd_T147 l2 x33_2).f1)))=w61 at n0_ n1_ n2_ n3_ n4_ n5_ ⊢
              have HO_8:=n0_
              have HO_9:=n1_
              have BK320:=n2_
              have BK321:=n3_
              have BK331:=n4_
              have HB:=n5_
              clear n0_ n1_ n2_ n3_ n4_ n5_
              have n0_:=am (Kd.S_drew HO_8.out)
              have n1_:=am (Kd.R_drew HO_9.out)
              have n2_:=am (qd BK320.out)
              have n3_:=am (qd BK321.out)
              have n4_:=am (qd BK331.out)
              have n5_:=am (pd HB.out)
              clear HO_8
              clear HO_9
              clear BK320
              clear BK321
              clear BK331
              clear HB
              have HO_8:=n0_
              have HO_9:=n1_
              have BK320:=n2_
              have BK321:=n3_
              have BK331:=n4_
              have HB:=n5_
              clear n0_ n1_ n2_ n3_ n4_ n5_
              have p333:0≤((ji41):Int):=od d2
              have q333:(ji41) < (l2.length:Int):=od d2
              obtain ⟨ad333,e333,hx333_0,hx333_1⟩:=at_T147 HR2.out (ji41) p333 q333
              have hw333_1:=hx333_1
              have hw333_0:=hx333_0
              obtain rfl:ad330=ad333:=(by injection e333)
              replace hx333_0:=(HB.out.cell (World.block_lt_of_cell? w _ hx333_0)).trans hx333_0
              replace hx333_1:=(HB.out.cell (World.block_lt_of_cell? w _ hx333_1)).trans hx333_1
              replace p333:=eq_true p333
              replace q333:=eq_true q333
              refine rS (n:=26) (S:=fun w'=>w'.cell? ⟨gb320,0,none⟩=some (.int .i64 a0_0)∧w'.cell? ⟨gb320,1,none⟩=some (.int .i64 a0_1)∧w'.cell? ⟨gb331,0,none⟩=some (.int .i64 ((rd_T147 l2 x33_2).f0))∧w'.cell? ⟨gb331,1,none⟩=some (.int .u8 ((rd_T147 l2 x33_2).f1))∧w'.cell? (ad330.add (((ji41)).toNat*2))=some (.int .i64 ((rd_T147 l2 (ji41)).f0))∧w'.cell? ⟨(ad330.add (((ji41)).toNat*2)).block,(ad330.add (((ji41)).toNat*2)).off+1,none⟩=some (.int .u8 ((rd_T147 l2 (ji41)).f1))) (ds:=[]) [(1,39),(0,38),(2,40),(3,0),(4,42),(5,43),(6,44),(8,46),(7,45),(9,47),(10,48),(11,49),(12,50),(13,51),(14,52),(15,53),(17,55),(18,56),(19,57),(20,58),(21,59),(16,54),(22,60),(23,61),(24,62),(25,63)] d3 rfl impl_RegeneratePiece.tab7 impl_RegeneratePiece.bits7 ⟨(blk_cell BK320.out 0).trans rfl,(blk_cell BK320.out 1).trans rfl,(blk_cell BK331.out 0).trans rfl,(blk_cell BK331.out 1).trans rfl,((HB.out.cell (World.block_lt_of_cell? w _ hw333_0)).trans hw333_0),((HB.out.cell (World.block_lt_of_cell? w _ hw333_1)).trans hw333_1)⟩ (fun hHeld HT_ HW_=>?_)
              generalize w61.drew=w62 at HO_8 HO_9 BK320 BK321 BK331 HB hx333_0 hx333_1 hHeld ⊢
              refine rR ?_
              refine rO (N:=some 41) HT_ rfl rfl d3 d8 (fun K hK=>?_)
              refine goes_ Try.func127 d3 rfl #[.agg #[.int .i64 a0_0, .int .i64 a0_1], .int .i64 ((rd_T147 l2 x33_2).f0)] d20 rfl rfl d1 ?_
              with_reducible refine (impl_Msr_isNode.calls a0_0 a0_1 ((rd_T147 l2 x33_2).f0) true _ A28.out).mono ?_
              rintro e w63 ⟨rfl,hb⟩
              refine ⟨_,rfl,?_⟩
              have n0_:=am (Kd.S_below d12 hb)
              have n1_:=am (Kd.R_below d7 hb)
              have n2_:=am (qb (g:=gb320) (o:=.cells #[.int .i64 a0_0, .int .i64 a0_1] 72 (0,0)) (by (with_reducible repeat (first|refine qn ?_ _|refine qd ?_|refine qa ?_ _));exact BK320.out) hb)
              have n3_:=am (qb (g:=gb321) (o:=.cells #[.int .i64 x322000_2, .slice none 0 0] 69 (0,0)) (by (with_reducible repeat (first|refine qn ?_ _|refine qd ?_|refine qa ?_ _));exact BK321.out) hb)
              have n4_:=am (qb (g:=gb331) (o:=.cells #[.int .i64 ((rd_T147 l2 x33_2).f0), .int .u8 ((rd_T147 l2 x33_2).f1)] 147 (0,0)) (by (with_reducible repeat (first|refine qn ?_ _|refine qd ?_|refine qa ?_ _));exact BK331.out) hb)
              have n5_:=am (pu (by repeat (first|(with_reducible first|exact HB.out|apply pa|apply pb|apply pd|refine pt ?_ GE320.out|refine pt ?_ GE321.out|refine pt ?_ GE331.out)|exact HB.out)) hb)
              clear HO_8
              clear HO_9
              clear BK320
              clear BK321
              clear BK331
              clear HB
              have HO_8:=n0_
              have HO_9:=n1_
              have BK320:=n2_
              have BK321:=n3_
              have BK331:=n4_
              have HB:=n5_
              clear n0_ n1_ n2_ n3_ n4_ n5_
              (try clear hb)
              (try clear hb2)
              (try clear hk)
              (try clear hi)
              refine hK.out _ _ ⟨(blk_cell BK320.out 0).trans rfl,(blk_cell BK320.out 1).trans rfl,(blk_cell BK331.out 0).trans rfl,(blk_cell BK331.out 1).trans rfl,((HB.out.cell (World.block_lt_of_cell? w _ hw333_0)).trans hw333_0),((HB.out.cell (World.block_lt_of_cell? w _ hw333_1)).trans hw333_1)⟩ (fun hHeld=>?_)
              clear hK K
              refine rN (a':=?_) ?_ ?_
              rotate_left
              ·show Act.put _ (some 41) _=_
               simp only [Act.put,q1,q2,q3,i64_w,i32_w]
               rfl
              refine rR ?_
              refine rD HT_ d3 ?_
              have hnb64:=NB320_321.out
              have hnc64:=NB321_320.out
              have hcz65_0:w63.cell? ⟨gb320,0,none⟩=some (.int .i64 a0_0):=(blk_cell BK320.out 0).trans rfl
              have hcz65_1:w63.cell? ⟨gb320,1,none⟩=some (.int .i64 a0_1):=(blk_cell BK320.out 1).trans rfl
              have hfz65_0:=blk_frozen BK320.out 0
              have hfz65_1:=blk_frozen BK320.out 1
              have hcz66_0:w63.cell? ⟨gb331,0,none⟩=some (.int .i64 ((rd_T147 l2 x33_2).f0)):=(blk_cell BK331.out 0).trans rfl
              have hcz66_1:w63.cell? ⟨gb331,1,none⟩=some (.int .u8 ((rd_T147 l2 x33_2).f1)):=(blk_cell BK331.out 1).trans rfl
              have hfz66_0:=blk_frozen BK331.out 0
              have hfz66_1:=blk_frozen BK331.out 1
              try go_wp2_with (first|((with_reducible refine gate_callee (f:=129) rfl ?_);refine goesL_ (some 69) rfl rfl Try.func129 d3 rfl #[.agg #[.int .i64 a0_0, .int .i64 a0_1], .int .i64 ((rd_T147 l2 x33_2).f0)] rfl d1 ?_;(with_reducible refine (impl_Msr_row.calls k2 a0_0 a0_1 ((rd_T147 l2 x33_2).f0) t334 _ A54.out).mono ?_);rintro e w67 ⟨v335,rfl,ho0,hb⟩;refine ⟨_,rfl,?_⟩;have n0_:=am (Kd.S_elder' d12 (Kd.R_base ho0) hb);have n1_:=am (Kd.R_elder' d7 (Kd.R_base ho0) hb);have n2_:=am (Kd.R_lower (Kd.R_new' ho0 (Kd.R_lt d7)) (pz (by repeat (first|(with_reducible first|exact HB.out|apply pa|apply pb|apply pd|refine pt ?_ GE320.out|refine pt ?_ GE321.out|refine pt ?_ GE331.out)|exact HB.out))));have n3_:=am (qb (g:=gb320) (o:=.cells #[.int .i64 a0_0, .int .i64 a0_1] 72 (0,0)) (by (with_reducible repeat (first|refine qn ?_ _|refine qd ?_|refine qa ?_ _));exact BK320.out) hb);have n4_:=am (qb (g:=gb321) (o:=.cells #[.int .i64 x322000_2, .slice none 0 0] 69 (0,0)) (by (with_reducible repeat (first|refine qn ?_ _|refine qd ?_|refine qa ?_ _));exact BK321.out) hb);have n5_:=am (qb (g:=gb331) (o:=.cells #[.int .i64 ((rd_T147 l2 x33_2).f0), .int .u8 ((rd_T147 l2 x33_2).f1)] 147 (0,0)) (by (with_reducible repeat (first|refine qn ?_ _|refine qd ?_|refine qa ?_ _));exact BK331.out) hb);have n6_:=am (pu (by repeat (first|(with_reducible first|exact HB.out|apply pa|apply pb|apply pd|refine pt ?_ GE320.out|refine pt ?_ GE321.out|refine pt ?_ GE331.out)|exact HB.out)) hb);clear HO_8;clear HO_9;clear BK320;clear BK321;clear BK331;clear HB;have HO_8:=n0_;have HO_9:=n1_;have HO336:=n2_;have BK320:=n3_;have BK321:=n4_;have BK331:=n5_;have HB:=n6_;clear n0_ n1_ n2_ n3_ n4_ n5_ n6_;(try clear hb);(try clear hb2);(try clear hk);(try clear hi);(try clear ho0);obtain ⟨Ao69,co69,eo69⟩:=Kd.R_slice HO336.out;subst eo69)|((with_reducible refine gate_builtin (b:=.append) (xs:=#[.tmp 65, .tmp 70]) rfl ?_);(try (refine gate_guard d20 ?_;dsimp only));at_builtin;refine Kd.S_append (Kd.slice 5 (Kd.int .u8)) (w0:=w) w.heap.size rfl (.tmp 65) (.tmp 70) 37 57 (.slice none 0 0) 24 rfl Try.underlying37 info57 rfl d8 d15 u8 x8_2 t334 [.slice Ao69 t334.length co69] (fun k_=>some k_ ≠ (u9:Value).ownBlock) (fun k_=>some k_=(.slice Ao69 t334.length co69:Value).ownBlock) rfl rfl ?aP (fun k_ hk_=>((Kd.R_mono (ok':=fun k_=>((fun k_=>some k_ ≠ (u9:Value).ownBlock)) k_∧some k_ ≠ (u8:Value).ownBlock) (Kd.R_apart' (HO336.out) (Kd.S_typed HO_8.out) d8) (fun k_ hk=>⟨hk.1.2,hk.2⟩))).1 k_ hk_.symm) ?aF ?aO ?aB ?aS ?aL ?_;(case aP=>exact Kd.M_row (Kd.R_mono (Kd.R_tight rfl (Kd.R_mono (ok':=fun k_=>((fun k_=>some k_ ≠ (u9:Value).ownBlock)) k_∧some k_ ≠ (u8:Value).ownBlock) (Kd.R_apart' (HO336.out) (Kd.S_typed HO_8.out) d8) (fun k_ hk=>⟨hk.1.2,hk.2⟩))) (fun _ h_=>h_)));(case aB=>exact (by repeat (first|(with_reducible first|exact HB.out|apply pa|apply pb|apply pd|refine pt ?_ GE320.out|refine pt ?_ GE321.out|refine pt ?_ GE331.out)|exact HB.out)));(case aF=>exact (fun k_ hk=>Kd.fresh' (Kd.R_lt d7) k_ hk));(case aO=>exact d66);(case aS=>exact (pz (by repeat (first|(with_reducible first|exact HB.out|apply pa|apply pb|apply pd|refine pt ?_ GE320.out|refine pt ?_ GE321.out|refine pt ?_ GE331.out)|exact HB.out))));(case aL=>have:=LMc55.out;omega);intro v338 w68 ho hb hg hat;rw [← Ny337.out] at ho;have n0_:=am (Kd.R_over' d7 (Kd.S_typed d12) d8 hg);have n1_:=am (blk_grown (g:=gb320) (o:=.cells #[.int .i64 a0_0, .int .i64 a0_1] 72 (0,0)) (by (with_reducible repeat (first|refine qn ?_ _|refine qd ?_|refine qa ?_ _));exact BK320.out) hg (Kd.S_ne HO_8.out BK320.out d8));have n2_:=am (blk_grown (g:=gb321) (o:=.cells #[.int .i64 x322000_2, .slice none 0 0] 69 (0,0)) (by (with_reducible repeat (first|refine qn ?_ _|refine qd ?_|refine qa ?_ _));exact BK321.out) hg (Kd.S_ne HO_8.out BK321.out d8));have n3_:=am (blk_grown (g:=gb331) (o:=.cells #[.int .i64 ((rd_T147 l2 x33_2).f0), .int .u8 ((rd_T147 l2 x33_2).f1)] 147 (0,0)) (by (with_reducible repeat (first|refine qn ?_ _|refine qd ?_|refine qa ?_ _));exact BK331.out) hg (Kd.S_ne HO_8.out BK331.out d8));have n4_:=am (hb);have n5_:=am (ho);clear HO_9;clear BK320;clear BK321;clear BK331;clear HB;clear HO_8;clear HO336;have HO_9:=n0_;have BK320:=n1_;have BK321:=n2_;have BK331:=n3_;have HB:=n4_;have HO339:=n5_;clear n0_ n1_ n2_ n3_ n4_ n5_;clear ho hb hg hat;have hcz70_0:w68.cell? ⟨gb331,0,none⟩=some (.int .i64 ((rd_T147 l2 x33_2).f0)):=(blk_cell BK331.out 0).trans rfl;have hcz70_1:w68.cell? ⟨gb331,1,none⟩=some (.int .u8 ((rd_T147 l2 x33_2).f1)):=(blk_cell BK331.out 1).trans rfl;have hfz70_0:=blk_frozen BK331.out 0;have hfz70_1:=blk_frozen BK331.out 1)|((with_reducible refine gate_builtin (b:=.append) (xs:=#[.tmp 72, .tmp 75]) rfl ?_);(try (refine gate_guard d20 ?_;dsimp only));at_builtin;refine Kd.R_append (Kd.int .u8) (w0:=w) w.heap.size rfl (.tmp 72) (.tmp 75) 57 5 (.int .u8 0) 1 rfl Try.underlying57 info5 rfl d8 d15 u9 x9_2 ((rd_T147 l2 x33_2).f1) [.int .u8 ((rd_T147 l2 x33_2).f1)] (fun _=>True) (fun _=>False) rfl rfl ?aP (fun _ hk=>hk.elim) ?aF ?aO ?aB ?aS ?aL ?_;(case aP=>exact rfl);(case aB=>exact (by repeat (first|(with_reducible first|exact HB.out|apply pa|apply pb|apply pd|refine pt ?_ GE320.out|refine pt ?_ GE321.out|refine pt ?_ GE331.out)|exact HB.out)));(case aF=>exact (fun _ _=>trivial));(case aO=>exact d69);(case aS=>exact (pz (by repeat (first|(with_reducible first|exact HB.out|apply pa|apply pb|apply pd|refine pt ?_ GE320.out|refine pt ?_ GE321.out|refine pt ?_ GE331.out)|exact HB.out))));(case aL=>have:=LMc56.out;omega);intro v341 w71 ho hb hg hat;rw [← Ny340.out] at ho;have n0_:=am (blk_grown (g:=gb320) (o:=.cells #[.int .i64 a0_0, .int .i64 a0_1] 72 (0,0)) (by (with_reducible repeat (first|refine qn ?_ _|refine qd ?_|refine qa ?_ _));exact BK320.out) hg (Kd.R_ne HO_9.out BK320.out d8));have n1_:=am (blk_grown (g:=gb321) (o:=.cells #[.int .i64 x322000_2, .slice none 0 0] 69 (0,0)) (by (with_reducible repeat (first|refine qn ?_ _|refine qd ?_|refine qa ?_ _));exact BK321.out) hg (Kd.R_ne HO_9.out BK321.out d8));have n2_:=am (blk_grown (g:=gb331) (o:=.cells #[.int .i64 ((rd_T147 l2 x33_2).f0), .int .u8 ((rd_T147 l2 x33_2).f1)] 147 (0,0)) (by (with_reducible repeat (first|refine qn ?_ _|refine qd ?_|refine qa ?_ _));exact BK331.out) hg (Kd.R_ne HO_9.out BK331.out d8));have n3_:=am (Kd.S_after (ok:=(fun _=>True)) (by (with_reducible repeat (first|apply Kd.S_alloc|apply Kd.S_drewN|apply Kd.S_drew));exact Kd.S_mono HO339.out (fun _ hk=>⟨trivial,hk⟩)) hg hat);have n4_:=am (hb);have n5_:=am (ho);clear BK320;clear BK321;clear BK331;clear HO339;clear HB;clear HO_9;have BK320:=n0_;have BK321:=n1_;have BK331:=n2_;have HO339:=n3_;have HB:=n4_;have HO342:=n5_;clear n0_ n1_ n2_ n3_ n4_ n5_;clear ho hb hg hat))
              go_roundg k2
              case measure=>have:=HJ3.out;have:=HK2.out;omega
              case rel=>exact ⟨(y337),(y340),(wrap64 (x33_2+1)),(x322000_2),d4,H',⟨by have:=HJ3.out;have:=HK2.out;omega⟩,⟨by (with_reducible repeat (first|apply Kd.S_alloc|apply Kd.S_drewN|apply Kd.S_drew));exact Kd.S_mono HO339.out (fun _ hk=>hk.2)⟩,⟨by (with_reducible repeat (first|apply Kd.R_alloc|apply Kd.R_drewN|apply Kd.R_drew));exact HO342.out⟩,⟨by (with_reducible repeat (first|refine qn ?_ _|refine qd ?_|refine qa ?_ _));exact BK320.out⟩,⟨by (with_reducible repeat (first|refine qn ?_ _|refine qd ?_|refine qa ?_ _));exact BK321.out⟩,⟨by repeat (first|(with_reducible first|exact HB.out|apply pa|apply pb|apply pd|refine pt ?_ GE320.out|refine pt ?_ GE321.out|refine pt ?_ GE331.out)|exact HB.out)⟩⟩
             rw [if_neg c56] at H
             exact absurd H d31
            rw [if_neg c55] at H
            exact absurd H d31
           rw [if_neg c43] at H
           exact absurd H d31
          rw [if_neg c42] at H
          exact absurd H d31
         rw [if_neg c40] at H
         have c40b0:decide (0 < x33_2)=false:=decide_eq_false c40
         clear c40
         replace H:=Option.bind_eq_some_iff.mp H
         obtain ⟨t343,A720,H⟩:=H
         replace H:(if x8_2.length < 5864062014805 then (if x9_2.length < 140737488355328 then (impl_RegeneratePiece.l0 k2 a1 l2 (x8_2 ++ [t343]) (x9_2 ++ [(rd_T147 l2 x33_2).f1]) l2 (l2.length:Int) (wrap64 (x33_2+1)) a0_0 a0_1) else (none)) else (none))=some (r1,r2,r3):=H
         have A72:=am A720
         clear A720
         by_cases c73:x8_2.length < 5864062014805
         ·rw [if_pos c73] at H
          have LMc73:=am c73
          clear c73
          obtain ⟨y346,hy346⟩:∃ y_:List (List Int),y_=(x8_2 ++ [t343]):=⟨_,rfl⟩
          replace H:(if x9_2.length < 140737488355328 then (impl_RegeneratePiece.l0 k2 a1 l2 y346 (x9_2 ++ [(rd_T147 l2 x33_2).f1]) l2 (l2.length:Int) (wrap64 (x33_2+1)) a0_0 a0_1) else (none))=some (r1,r2,r3):=by first|(rw [hy346];with_reducible exact H)|(have H2_:=(Option.bind_some _ _).symm.trans H;rw [hy346];with_reducible exact H2_)|(have H2_:=(Option.bind_some _ _).symm.trans H;with_reducible exact H2_)|with_reducible exact H|(rw [hy346];exact H)|exact H
          have Ny346:=am hy346
          clear hy346
          by_cases c74:x9_2.length < 140737488355328
          ·rw [if_pos c74] at H
           have LMc74:=am c74
           clear c74
           obtain ⟨y349,hy349⟩:∃ y_:List Int,y_=(x9_2 ++ [(rd_T147 l2 x33_2).f1]):=⟨_,rfl⟩
           replace H:(impl_RegeneratePiece.l0 k2 a1 l2 y346 y349 l2 (l2.length:Int) (wrap64 (x33_2+1)) a0_0 a0_1)=some (r1,r2,r3):=by first|(rw [hy349];with_reducible exact H)|(have H2_:=(Option.bind_some _ _).symm.trans H;rw [hy349];with_reducible exact H2_)|(have H2_:=(Option.bind_some _ _).symm.trans H;with_reducible exact H2_)|with_reducible exact H|(rw [hy349];exact H)|exact H
           have Ny349:=am hy349
           clear hy349
           have H':=am H
           clear H
           have p330:0≤(x33_2:Int):=od d2
           have q330:x33_2 < (l2.length:Int):=od d2
           obtain ⟨ad330,e330,hx330_0,hx330_1⟩:=at_T147 HR2.out x33_2 p330 q330
           cases e330
           replace hx330_0:=(HB.out.cell (World.block_lt_of_cell? w _ hx330_0)).trans hx330_0
           replace hx330_1:=(HB.out.cell (World.block_lt_of_cell? w _ hx330_1)).trans hx330_1
           replace p330:=eq_true p330
           replace q330:=eq_true q330
           try go_wp2_with (first|((with_reducible refine gate_dst (N:=11) rfl ?_);(try (refine gate_guard d20 ?_;dsimp only));refine box_event ?hg (N:=11) ?hd (cs:=#[.int .i64 0, .int .u8 0]) (t:=147) ?hr ?_;(case hd=>rfl);(case hg=>rfl);(case hr=>first|(go_simp;done)|(go_simp;rfl));intro gb331 hg w75 hbox hb;have n0_:=am (Kd.S_below d12 hb);have n1_:=am (Kd.R_below d7 hb);have n2_:=am (qb (g:=gb320) (o:=.cells #[.int .i64 a0_0, .int .i64 a0_1] 72 (0,0)) (by (with_reducible repeat (first|refine qn ?_ _|refine qd ?_|refine qa ?_ _));exact BK320.out) hb);have n3_:=am (qb (g:=gb321) (o:=.cells #[.int .i64 x322000_2, .slice none 0 0] 69 (0,0)) (by (with_reducible repeat (first|refine qn ?_ _|refine qd ?_|refine qa ?_ _));exact BK321.out) hb);have n4_:=am (pu (by repeat (first|(with_reducible first|exact HB.out|apply pa|apply pb|apply pd|refine pt ?_ GE320.out|refine pt ?_ GE321.out)|exact HB.out)) hb);have n5_:=am (hbox);have n6_:=am ((by rw [hg];exact (pz (by repeat (first|(with_reducible first|exact HB.out|apply pa|apply pb|apply pd|refine pt ?_ GE320.out|refine pt ?_ GE321.out)|exact HB.out))):w.heap.size≤gb331));have n7_:=n6_;have n8_:=am ((by rw [hg];exact Nat.ne_of_lt (blk_lt (g:=gb320) (o:=.cells #[.int .i64 a0_0, .int .i64 a0_1] 72 (0,0)) (by (with_reducible repeat (first|refine qn ?_ _|refine qd ?_|refine qa ?_ _));exact BK320.out)):gb320 ≠ gb331));have n9_:=am ((by rw [hg];exact Nat.ne_of_gt (blk_lt (g:=gb320) (o:=.cells #[.int .i64 a0_0, .int .i64 a0_1] 72 (0,0)) (by (with_reducible repeat (first|refine qn ?_ _|refine qd ?_|refine qa ?_ _));exact BK320.out)):gb331 ≠ gb320));have n10_:=am ((by rw [hg];exact Nat.ne_of_lt (blk_lt (g:=gb321) (o:=.cells #[.int .i64 x322000_2, .slice none 0 0] 69 (0,0)) (by (with_reducible repeat (first|refine qn ?_ _|refine qd ?_|refine qa ?_ _));exact BK321.out)):gb321 ≠ gb331));have n11_:=am ((by rw [hg];exact Nat.ne_of_gt (blk_lt (g:=gb321) (o:=.cells #[.int .i64 x322000_2, .slice none 0 0] 69 (0,0)) (by (with_reducible repeat (first|refine qn ?_ _|refine qd ?_|refine qa ?_ _));exact BK321.out)):gb331 ≠ gb321));clear HO_8;clear HO_9;clear BK320;clear BK321;clear HB;have HO_8:=n0_;have HO_9:=n1_;have BK320:=n2_;have BK321:=n3_;have HB:=n4_;have BK331:=n5_;have GW331:=n6_;have GE331:=n7_;have NB320_331:=n8_;have NB331_320:=n9_;have NB321_331:=n10_;have NB331_321:=n11_;clear n0_ n1_ n2_ n3_ n4_ n5_ n6_ n7_ n8_ n9_ n10_ n11_;clear hb hbox hg;have hnb76:=NB331_320.out;have hnc76:=NB320_331.out;have hnb77:=NB331_321.out;have hnc77:=NB321_331.out;have hcz78_0:w75.cell? ⟨gb331,0,none⟩=some (.int .i64 0):=(blk_cell BK331.out 0).trans rfl;have hcz78_1:w75.cell? ⟨gb331,1,none⟩=some (.int .u8 0):=(blk_cell BK331.out 1).trans rfl;have hfz78_0:=blk_frozen BK331.out 0;have hfz78_1:=blk_frozen BK331.out 1))
           have n0_:Aside0 (Kd.S (Kd.slice 5 (Kd.int .u8)) 57 ((w75.setCell ⟨gb331,0,none⟩ (.int .i64 ((rd_T147 l2 x33_2).f0))).setCell ⟨gb331,1,none⟩ (.int .u8 ((rd_T147 l2 x33_2).f1))) w.heap.size (fun k_=>some k_ ≠ (u9:Value).ownBlock) u8 x8_2):=⟨d19⟩
           have n1_:Aside0 (Kd.R (Kd.int .u8) 5 ((w75.setCell ⟨gb331,0,none⟩ (.int .i64 ((rd_T147 l2 x33_2).f0))).setCell ⟨gb331,1,none⟩ (.int .u8 ((rd_T147 l2 x33_2).f1))) w.heap.size (fun _=>True) u9 x9_2):=⟨d18⟩
           have n2_:Aside0 (((w75.setCell ⟨gb331,0,none⟩ (.int .i64 ((rd_T147 l2 x33_2).f0))).setCell ⟨gb331,1,none⟩ (.int .u8 ((rd_T147 l2 x33_2).f1))).heap[gb320]? = some (.cells #[.int .i64 a0_0, .int .i64 a0_1] 72 (0,0))):=⟨by (with_reducible repeat (first|refine qn ?_ _|refine qd ?_|refine qa ?_ _));refine blk_far ?_ NB320_331.out _;(with_reducible repeat (first|refine qn ?_ _|refine qd ?_|refine qa ?_ _));refine blk_far ?_ NB320_331.out _;(with_reducible repeat (first|refine qn ?_ _|refine qd ?_|refine qa ?_ _));exact BK320.out⟩
           have n3_:Aside0 (((w75.setCell ⟨gb331,0,none⟩ (.int .i64 ((rd_T147 l2 x33_2).f0))).setCell ⟨gb331,1,none⟩ (.int .u8 ((rd_T147 l2 x33_2).f1))).heap[gb321]? = some (.cells #[.int .i64 x322000_2, .slice none 0 0] 69 (0,0))):=⟨by (with_reducible repeat (first|refine qn ?_ _|refine qd ?_|refine qa ?_ _));refine blk_far ?_ NB321_331.out _;(with_reducible repeat (first|refine qn ?_ _|refine qd ?_|refine qa ?_ _));refine blk_far ?_ NB321_331.out _;(with_reducible repeat (first|refine qn ?_ _|refine qd ?_|refine qa ?_ _));exact BK321.out⟩
           have n4_:Aside0 (((w75.setCell ⟨gb331,0,none⟩ (.int .i64 ((rd_T147 l2 x33_2).f0))).setCell ⟨gb331,1,none⟩ (.int .u8 ((rd_T147 l2 x33_2).f1))).heap[gb331]? = some (.cells #[.int .i64 ((rd_T147 l2 x33_2).f0), .int .u8 ((rd_T147 l2 x33_2).f1)] 147 (0,0))):=⟨by (with_reducible repeat (first|refine qn ?_ _|refine qd ?_|refine qa ?_ _));refine blk_put (cs:=#[.int .i64 ((rd_T147 l2 x33_2).f0), .int .u8 0]) ?_ 1 _ rfl;(with_reducible repeat (first|refine qn ?_ _|refine qd ?_|refine qa ?_ _));refine blk_put (cs:=#[.int .i64 0, .int .u8 0]) ?_ 0 _ rfl;(with_reducible repeat (first|refine qn ?_ _|refine qd ?_|refine qa ?_ _));exact BK331.out⟩
           have n5_:Aside0 (Below w.heap.size w ((w75.setCell ⟨gb331,0,none⟩ (.int .i64 ((rd_T147 l2 x33_2).f0))).setCell ⟨gb331,1,none⟩ (.int .u8 ((rd_T147 l2 x33_2).f1)))):=⟨by repeat (first|(with_reducible first|exact HB.out|apply pa|apply pb|apply pd|refine pt ?_ GE320.out|refine pt ?_ GE321.out|refine pt ?_ GE331.out)|exact HB.out)⟩
           (try clear HO_8)
           (try clear HO_9)
           (try clear BK320)
           (try clear BK321)
           (try clear BK331)
           (try clear HB)
           generalize ((w75.setCell ⟨gb331,0,none⟩ (.int .i64 ((rd_T147 l2 x33_2).f0))).setCell ⟨gb331,1,none⟩ (.int .u8 ((rd_T147 l2 x33_2).f1)))=w79 at n0_ n1_ n2_ n3_ n4_ n5_ ⊢
           have HO_8:=n0_
           have HO_9:=n1_
           have BK320:=n2_
           have BK321:=n3_
           have BK331:=n4_
           have HB:=n5_
           clear n0_ n1_ n2_ n3_ n4_ n5_
           have n0_:=am (Kd.S_drew HO_8.out)
           have n1_:=am (Kd.R_drew HO_9.out)
           have n2_:=am (qd BK320.out)
           have n3_:=am (qd BK321.out)
           have n4_:=am (qd BK331.out)
           have n5_:=am (pd HB.out)
           clear HO_8
           clear HO_9
           clear BK320
           clear BK321
           clear BK331
           clear HB
           have HO_8:=n0_
           have HO_9:=n1_
           have BK320:=n2_
           have BK321:=n3_
           have BK331:=n4_
           have HB:=n5_
           clear n0_ n1_ n2_ n3_ n4_ n5_
           refine rS (n:=26) (S:=fun w'=>w'.cell? ⟨gb320,0,none⟩=some (.int .i64 a0_0)∧w'.cell? ⟨gb320,1,none⟩=some (.int .i64 a0_1)∧w'.cell? ⟨gb331,0,none⟩=some (.int .i64 ((rd_T147 l2 x33_2).f0))∧w'.cell? ⟨gb331,1,none⟩=some (.int .u8 ((rd_T147 l2 x33_2).f1))) (ds:=[]) [(1,39),(0,38),(2,40),(3,0),(4,42),(5,43),(6,44),(8,46),(7,45),(9,47),(10,48),(11,49),(12,50),(13,51),(14,52),(15,53),(16,54),(17,55),(18,56),(19,57),(20,58),(21,59),(22,60),(23,61),(24,62),(25,63)] d3 rfl impl_RegeneratePiece.tab7 impl_RegeneratePiece.bits7 ⟨(blk_cell BK320.out 0).trans rfl,(blk_cell BK320.out 1).trans rfl,(blk_cell BK331.out 0).trans rfl,(blk_cell BK331.out 1).trans rfl⟩ (fun hHeld HT_ HW_=>?_)
           generalize w79.drew=w80 at HO_8 HO_9 BK320 BK321 BK331 HB hHeld ⊢
           refine rR ?_
           refine rO (N:=some 41) HT_ rfl rfl d3 d8 (fun K hK=>?_)
           refine goes_ Try.func127 d3 rfl #[.agg #[.int .i64 a0_0, .int .i64 a0_1], .int .i64 ((rd_T147 l2 x33_2).f0)] d20 rfl rfl d1 ?_
           with_reducible refine (impl_Msr_isNode.calls a0_0 a0_1 ((rd_T147 l2 x33_2).f0) true _ A28.out).mono ?_
           rintro e w81 ⟨rfl,hb⟩
           refine ⟨_,rfl,?_⟩
           have n0_:=am (Kd.S_below d12 hb)
           have n1_:=am (Kd.R_below d7 hb)
           have n2_:=am (qb (g:=gb320) (o:=.cells #[.int .i64 a0_0, .int .i64 a0_1] 72 (0,0)) (by (with_reducible repeat (first|refine qn ?_ _|refine qd ?_|refine qa ?_ _));exact BK320.out) hb)
           have n3_:=am (qb (g:=gb321) (o:=.cells #[.int .i64 x322000_2, .slice none 0 0] 69 (0,0)) (by (with_reducible repeat (first|refine qn ?_ _|refine qd ?_|refine qa ?_ _));exact BK321.out) hb)
           have n4_:=am (qb (g:=gb331) (o:=.cells #[.int .i64 ((rd_T147 l2 x33_2).f0), .int .u8 ((rd_T147 l2 x33_2).f1)] 147 (0,0)) (by (with_reducible repeat (first|refine qn ?_ _|refine qd ?_|refine qa ?_ _));exact BK331.out) hb)
           have n5_:=am (pu (by repeat (first|(with_reducible first|exact HB.out|apply pa|apply pb|apply pd|refine pt ?_ GE320.out|refine pt ?_ GE321.out|refine pt ?_ GE331.out)|exact HB.out)) hb)
           clear HO_8
           clear HO_9
           clear BK320
           clear BK321
           clear BK331
           clear HB
           have HO_8:=n0_
           have HO_9:=n1_
           have BK320:=n2_
           have BK321:=n3_
           have BK331:=n4_
           have HB:=n5_
           clear n0_ n1_ n2_ n3_ n4_ n5_
           (try clear hb)
           (try clear hb2)
           (try clear hk)
           (try clear hi)
           refine hK.out _ _ ⟨(blk_cell BK320.out 0).trans rfl,(blk_cell BK320.out 1).trans rfl,(blk_cell BK331.out 0).trans rfl,(blk_cell BK331.out 1).trans rfl⟩ (fun hHeld=>?_)
           clear hK K
           refine rN (a':=?_) ?_ ?_
           rotate_left
           ·show Act.put _ (some 41) _=_
            simp only [Act.put,q1,q2,q3,i64_w,i32_w]
            rfl
           refine rR ?_
           refine rD HT_ d3 ?_
           have hnb82:=NB320_321.out
           have hnc82:=NB321_320.out
           have hcz83_0:w81.cell? ⟨gb320,0,none⟩=some (.int .i64 a0_0):=(blk_cell BK320.out 0).trans rfl
           have hcz83_1:w81.cell? ⟨gb320,1,none⟩=some (.int .i64 a0_1):=(blk_cell BK320.out 1).trans rfl
           have hfz83_0:=blk_frozen BK320.out 0
           have hfz83_1:=blk_frozen BK320.out 1
           have hcz84_0:w81.cell? ⟨gb331,0,none⟩=some (.int .i64 ((rd_T147 l2 x33_2).f0)):=(blk_cell BK331.out 0).trans rfl
           have hcz84_1:w81.cell? ⟨gb331,1,none⟩=some (.int .u8 ((rd_T147 l2 x33_2).f1)):=(blk_cell BK331.out 1).trans rfl
           have hfz84_0:=blk_frozen BK331.out 0
           have hfz84_1:=blk_frozen BK331.out 1
           try go_wp2_with (first|((with_reducible refine gate_callee (f:=129) rfl ?_);refine goesL_ (some 69) rfl rfl Try.func129 d3 rfl #[.agg #[.int .i64 a0_0, .int .i64 a0_1], .int .i64 ((rd_T147 l2 x33_2).f0)] rfl d1 ?_;(with_reducible refine (impl_Msr_row.calls k2 a0_0 a0_1 ((rd_T147 l2 x33_2).f0) t343 _ A72.out).mono ?_);rintro e w85 ⟨v344,rfl,ho0,hb⟩;refine ⟨_,rfl,?_⟩;have n0_:=am (Kd.S_elder' d12 (Kd.R_base ho0) hb);have n1_:=am (Kd.R_elder' d7 (Kd.R_base ho0) hb);have n2_:=am (Kd.R_lower (Kd.R_new' ho0 (Kd.R_lt d7)) (pz (by repeat (first|(with_reducible first|exact HB.out|apply pa|apply pb|apply pd|refine pt ?_ GE320.out|refine pt ?_ GE321.out|refine pt ?_ GE331.out)|exact HB.out))));have n3_:=am (qb (g:=gb320) (o:=.cells #[.int .i64 a0_0, .int .i64 a0_1] 72 (0,0)) (by (with_reducible repeat (first|refine qn ?_ _|refine qd ?_|refine qa ?_ _));exact BK320.out) hb);have n4_:=am (qb (g:=gb321) (o:=.cells #[.int .i64 x322000_2, .slice none 0 0] 69 (0,0)) (by (with_reducible repeat (first|refine qn ?_ _|refine qd ?_|refine qa ?_ _));exact BK321.out) hb);have n5_:=am (qb (g:=gb331) (o:=.cells #[.int .i64 ((rd_T147 l2 x33_2).f0), .int .u8 ((rd_T147 l2 x33_2).f1)] 147 (0,0)) (by (with_reducible repeat (first|refine qn ?_ _|refine qd ?_|refine qa ?_ _));exact BK331.out) hb);have n6_:=am (pu (by repeat (first|(with_reducible first|exact HB.out|apply pa|apply pb|apply pd|refine pt ?_ GE320.out|refine pt ?_ GE321.out|refine pt ?_ GE331.out)|exact HB.out)) hb);clear HO_8;clear HO_9;clear BK320;clear BK321;clear BK331;clear HB;have HO_8:=n0_;have HO_9:=n1_;have HO345:=n2_;have BK320:=n3_;have BK321:=n4_;have BK331:=n5_;have HB:=n6_;clear n0_ n1_ n2_ n3_ n4_ n5_ n6_;(try clear hb);(try clear hb2);(try clear hk);(try clear hi);(try clear ho0);obtain ⟨Ao87,co87,eo87⟩:=Kd.R_slice HO345.out;subst eo87)|((with_reducible refine gate_builtin (b:=.append) (xs:=#[.tmp 65, .tmp 70]) rfl ?_);(try (refine gate_guard d20 ?_;dsimp only));at_builtin;refine Kd.S_append (Kd.slice 5 (Kd.int .u8)) (w0:=w) w.heap.size rfl (.tmp 65) (.tmp 70) 37 57 (.slice none 0 0) 24 rfl Try.underlying37 info57 rfl d8 d15 u8 x8_2 t343 [.slice Ao87 t343.length co87] (fun k_=>some k_ ≠ (u9:Value).ownBlock) (fun k_=>some k_=(.slice Ao87 t343.length co87:Value).ownBlock) rfl rfl ?aP (fun k_ hk_=>((Kd.R_mono (ok':=fun k_=>((fun k_=>some k_ ≠ (u9:Value).ownBlock)) k_∧some k_ ≠ (u8:Value).ownBlock) (Kd.R_apart' (HO345.out) (Kd.S_typed HO_8.out) d8) (fun k_ hk=>⟨hk.1.2,hk.2⟩))).1 k_ hk_.symm) ?aF ?aO ?aB ?aS ?aL ?_;(case aP=>exact Kd.M_row (Kd.R_mono (Kd.R_tight rfl (Kd.R_mono (ok':=fun k_=>((fun k_=>some k_ ≠ (u9:Value).ownBlock)) k_∧some k_ ≠ (u8:Value).ownBlock) (Kd.R_apart' (HO345.out) (Kd.S_typed HO_8.out) d8) (fun k_ hk=>⟨hk.1.2,hk.2⟩))) (fun _ h_=>h_)));(case aB=>exact (by repeat (first|(with_reducible first|exact HB.out|apply pa|apply pb|apply pd|refine pt ?_ GE320.out|refine pt ?_ GE321.out|refine pt ?_ GE331.out)|exact HB.out)));(case aF=>exact (fun k_ hk=>Kd.fresh' (Kd.R_lt d7) k_ hk));(case aO=>exact d66);(case aS=>exact (pz (by repeat (first|(with_reducible first|exact HB.out|apply pa|apply pb|apply pd|refine pt ?_ GE320.out|refine pt ?_ GE321.out|refine pt ?_ GE331.out)|exact HB.out))));(case aL=>have:=LMc73.out;omega);intro v347 w86 ho hb hg hat;rw [← Ny346.out] at ho;have n0_:=am (Kd.R_over' d7 (Kd.S_typed d12) d8 hg);have n1_:=am (blk_grown (g:=gb320) (o:=.cells #[.int .i64 a0_0, .int .i64 a0_1] 72 (0,0)) (by (with_reducible repeat (first|refine qn ?_ _|refine qd ?_|refine qa ?_ _));exact BK320.out) hg (Kd.S_ne HO_8.out BK320.out d8));have n2_:=am (blk_grown (g:=gb321) (o:=.cells #[.int .i64 x322000_2, .slice none 0 0] 69 (0,0)) (by (with_reducible repeat (first|refine qn ?_ _|refine qd ?_|refine qa ?_ _));exact BK321.out) hg (Kd.S_ne HO_8.out BK321.out d8));have n3_:=am (blk_grown (g:=gb331) (o:=.cells #[.int .i64 ((rd_T147 l2 x33_2).f0), .int .u8 ((rd_T147 l2 x33_2).f1)] 147 (0,0)) (by (with_reducible repeat (first|refine qn ?_ _|refine qd ?_|refine qa ?_ _));exact BK331.out) hg (Kd.S_ne HO_8.out BK331.out d8));have n4_:=am (hb);have n5_:=am (ho);clear HO_9;clear BK320;clear BK321;clear BK331;clear HB;clear HO_8;clear HO345;have HO_9:=n0_;have BK320:=n1_;have BK321:=n2_;have BK331:=n3_;have HB:=n4_;have HO348:=n5_;clear n0_ n1_ n2_ n3_ n4_ n5_;clear ho hb hg hat;have hcz88_0:w86.cell? ⟨gb331,0,none⟩=some (.int .i64 ((rd_T147 l2 x33_2).f0)):=(blk_cell BK331.out 0).trans rfl;have hcz88_1:w86.cell? ⟨gb331,1,none⟩=some (.int .u8 ((rd_T147 l2 x33_2).f1)):=(blk_cell BK331.out 1).trans rfl;have hfz88_0:=blk_frozen BK331.out 0;have hfz88_1:=blk_frozen BK331.out 1)|((with_reducible refine gate_builtin (b:=.append) (xs:=#[.tmp 72, .tmp 75]) rfl ?_);(try (refine gate_guard d20 ?_;dsimp only));at_builtin;refine Kd.R_append (Kd.int .u8) (w0:=w) w.heap.size rfl (.tmp 72) (.tmp 75) 57 5 (.int .u8 0) 1 rfl Try.underlying57 info5 rfl d8 d15 u9 x9_2 ((rd_T147 l2 x33_2).f1) [.int .u8 ((rd_T147 l2 x33_2).f1)] (fun _=>True) (fun _=>False) rfl rfl ?aP (fun _ hk=>hk.elim) ?aF ?aO ?aB ?aS ?aL ?_;(case aP=>exact rfl);(case aB=>exact (by repeat (first|(with_reducible first|exact HB.out|apply pa|apply pb|apply pd|refine pt ?_ GE320.out|refine pt ?_ GE321.out|refine pt ?_ GE331.out)|exact HB.out)));(case aF=>exact (fun _ _=>trivial));(case aO=>exact d69);(case aS=>exact (pz (by repeat (first|(with_reducible first|exact HB.out|apply pa|apply pb|apply pd|refine pt ?_ GE320.out|refine pt ?_ GE321.out|refine pt ?_ GE331.out)|exact HB.out))));(case aL=>have:=LMc74.out;omega);intro v350 w89 ho hb hg hat;rw [← Ny349.out] at ho;have n0_:=am (blk_grown (g:=gb320) (o:=.cells #[.int .i64 a0_0, .int .i64 a0_1] 72 (0,0)) (by (with_reducible repeat (first|refine qn ?_ _|refine qd ?_|refine qa ?_ _));exact BK320.out) hg (Kd.R_ne HO_9.out BK320.out d8));have n1_:=am (blk_grown (g:=gb321) (o:=.cells #[.int .i64 x322000_2, .slice none 0 0] 69 (0,0)) (by (with_reducible repeat (first|refine qn ?_ _|refine qd ?_|refine qa ?_ _));exact BK321.out) hg (Kd.R_ne HO_9.out BK321.out d8));have n2_:=am (blk_grown (g:=gb331) (o:=.cells #[.int .i64 ((rd_T147 l2 x33_2).f0), .int .u8 ((rd_T147 l2 x33_2).f1)] 147 (0,0)) (by (with_reducible repeat (first|refine qn ?_ _|refine qd ?_|refine qa ?_ _));exact BK331.out) hg (Kd.R_ne HO_9.out BK331.out d8));have n3_:=am (Kd.S_after (ok:=(fun _=>True)) (by (with_reducible repeat (first|apply Kd.S_alloc|apply Kd.S_drewN|apply Kd.S_drew));exact Kd.S_mono HO348.out (fun _ hk=>⟨trivial,hk⟩)) hg hat);have n4_:=am (hb);have n5_:=am (ho);clear BK320;clear BK321;clear BK331;clear HO348;clear HB;clear HO_9;have BK320:=n0_;have BK321:=n1_;have BK331:=n2_;have HO348:=n3_;have HB:=n4_;have HO351:=n5_;clear n0_ n1_ n2_ n3_ n4_ n5_;clear ho hb hg hat))
           go_roundg k2
           case measure=>have:=HJ3.out;have:=HK2.out;omega
           case rel=>exact ⟨(y346),(y349),(wrap64 (x33_2+1)),(x322000_2),d4,H',⟨by have:=HJ3.out;have:=HK2.out;omega⟩,⟨by (with_reducible repeat (first|apply Kd.S_alloc|apply Kd.S_drewN|apply Kd.S_drew));exact Kd.S_mono HO348.out (fun _ hk=>hk.2)⟩,⟨by (with_reducible repeat (first|apply Kd.R_alloc|apply Kd.R_drewN|apply Kd.R_drew));exact HO351.out⟩,⟨by (with_reducible repeat (first|refine qn ?_ _|refine qd ?_|refine qa ?_ _));exact BK320.out⟩,⟨by (with_reducible repeat (first|refine qn ?_ _|refine qd ?_|refine qa ?_ _));exact BK321.out⟩,⟨by repeat (first|(with_reducible first|exact HB.out|apply pa|apply pb|apply pd|refine pt ?_ GE320.out|refine pt ?_ GE321.out|refine pt ?_ GE331.out)|exact HB.out)⟩⟩
          rw [if_neg c74] at H
          exact absurd H d31
         rw [if_neg c73] at H
         exact absurd H d31
        replace c29:=Bool.eq_false_iff.mpr c29
        subst c29
        have H1:(some (0,([]:List Int),false))=some (r1,r2,r3):=by rw [if_neg (show ¬ (false=true) by decide)] at H;exact H
        clear H
        have H:=H1
        clear H1
        simp only [Option.some.injEq,Prod.mk.injEq] at H
        obtain ⟨rfl,rfl,rfl⟩:=H
        have p330:0≤(x33_2:Int):=od d2
        have q330:x33_2 < (l2.length:Int):=od d2
        obtain ⟨ad330,e330,hx330_0,hx330_1⟩:=at_T147 HR2.out x33_2 p330 q330
        cases e330
        replace hx330_0:=(HB.out.cell (World.block_lt_of_cell? w _ hx330_0)).trans hx330_0
        replace hx330_1:=(HB.out.cell (World.block_lt_of_cell? w _ hx330_1)).trans hx330_1
        replace p330:=eq_true p330
        replace q330:=eq_true q330
        try go_wp2_with (first|((with_reducible refine gate_dst (N:=11) rfl ?_);(try (refine gate_guard d20 ?_;dsimp only));refine box_event ?hg (N:=11) ?hd (cs:=#[.int .i64 0, .int .u8 0]) (t:=147) ?hr ?_;(case hd=>rfl);(case hg=>rfl);(case hr=>first|(go_simp;done)|(go_simp;rfl));intro gb331 hg w90 hbox hb;have n0_:=am (Kd.S_below d12 hb);have n1_:=am (Kd.R_below d7 hb);have n2_:=am (qb (g:=gb320) (o:=.cells #[.int .i64 a0_0, .int .i64 a0_1] 72 (0,0)) (by (with_reducible repeat (first|refine qn ?_ _|refine qd ?_|refine qa ?_ _));exact BK320.out) hb);have n3_:=am (qb (g:=gb321) (o:=.cells #[.int .i64 x322000_2, .slice none 0 0] 69 (0,0)) (by (with_reducible repeat (first|refine qn ?_ _|refine qd ?_|refine qa ?_ _));exact BK321.out) hb);have n4_:=am (pu (by repeat (first|(with_reducible first|exact HB.out|apply pa|apply pb|apply pd|refine pt ?_ GE320.out|refine pt ?_ GE321.out)|exact HB.out)) hb);have n5_:=am (hbox);have n6_:=am ((by rw [hg];exact (pz (by repeat (first|(with_reducible first|exact HB.out|apply pa|apply pb|apply pd|refine pt ?_ GE320.out|refine pt ?_ GE321.out)|exact HB.out))):w.heap.size≤gb331));have n7_:=n6_;have n8_:=am ((by rw [hg];exact Nat.ne_of_lt (blk_lt (g:=gb320) (o:=.cells #[.int .i64 a0_0, .int .i64 a0_1] 72 (0,0)) (by (with_reducible repeat (first|refine qn ?_ _|refine qd ?_|refine qa ?_ _));exact BK320.out)):gb320 ≠ gb331));have n9_:=am ((by rw [hg];exact Nat.ne_of_gt (blk_lt (g:=gb320) (o:=.cells #[.int .i64 a0_0, .int .i64 a0_1] 72 (0,0)) (by (with_reducible repeat (first|refine qn ?_ _|refine qd ?_|refine qa ?_ _));exact BK320.out)):gb331 ≠ gb320));have n10_:=am ((by rw [hg];exact Nat.ne_of_lt (blk_lt (g:=gb321) (o:=.cells #[.int .i64 x322000_2, .slice none 0 0] 69 (0,0)) (by (with_reducible repeat (first|refine qn ?_ _|refine qd ?_|refine qa ?_ _));exact BK321.out)):gb321 ≠ gb331));have n11_:=am ((by rw [hg];exact Nat.ne_of_gt (blk_lt (g:=gb321) (o:=.cells #[.int .i64 x322000_2, .slice none 0 0] 69 (0,0)) (by (with_reducible repeat (first|refine qn ?_ _|refine qd ?_|refine qa ?_ _));exact BK321.out)):gb331 ≠ gb321));clear HO_8;clear HO_9;clear BK320;clear BK321;clear HB;have HO_8:=n0_;have HO_9:=n1_;have BK320:=n2_;have BK321:=n3_;have HB:=n4_;have BK331:=n5_;have GW331:=n6_;have GE331:=n7_;have NB320_331:=n8_;have NB331_320:=n9_;have NB321_331:=n10_;have NB331_321:=n11_;clear n0_ n1_ n2_ n3_ n4_ n5_ n6_ n7_ n8_ n9_ n10_ n11_;clear hb hbox hg;have hnb91:=NB331_320.out;have hnc91:=NB320_331.out;have hnb92:=NB331_321.out;have hnc92:=NB321_331.out;have hcz93_0:w90.cell? ⟨gb331,0,none⟩=some (.int .i64 0):=(blk_cell BK331.out 0).trans rfl;have hcz93_1:w90.cell? ⟨gb331,1,none⟩=some (.int .u8 0):=(blk_cell BK331.out 1).trans rfl;have hfz93_0:=blk_frozen BK331.out 0;have hfz93_1:=blk_frozen BK331.out 1))
        have n0_:Aside0 (Kd.S (Kd.slice 5 (Kd.int .u8)) 57 ((w90.setCell ⟨gb331,0,none⟩ (.int .i64 ((rd_T147 l2 x33_2).f0))).setCell ⟨gb331,1,none⟩ (.int .u8 ((rd_T147 l2 x33_2).f1))) w.heap.size (fun k_=>some k_ ≠ (u9:Value).ownBlock) u8 x8_2):=⟨d19⟩
        have n1_:Aside0 (Kd.R (Kd.int .u8) 5 ((w90.setCell ⟨gb331,0,none⟩ (.int .i64 ((rd_T147 l2 x33_2).f0))).setCell ⟨gb331,1,none⟩ (.int .u8 ((rd_T147 l2 x33_2).f1))) w.heap.size (fun _=>True) u9 x9_2):=⟨d18⟩
        have n2_:Aside0 (((w90.setCell ⟨gb331,0,none⟩ (.int .i64 ((rd_T147 l2 x33_2).f0))).setCell ⟨gb331,1,none⟩ (.int .u8 ((rd_T147 l2 x33_2).f1))).heap[gb320]? = some (.cells #[.int .i64 a0_0, .int .i64 a0_1] 72 (0,0))):=⟨by (with_reducible repeat (first|refine qn ?_ _|refine qd ?_|refine qa ?_ _));refine blk_far ?_ NB320_331.out _;(with_reducible repeat (first|refine qn ?_ _|refine qd ?_|refine qa ?_ _));refine blk_far ?_ NB320_331.out _;(with_reducible repeat (first|refine qn ?_ _|refine qd ?_|refine qa ?_ _));exact BK320.out⟩
        have n3_:Aside0 (((w90.setCell ⟨gb331,0,none⟩ (.int .i64 ((rd_T147 l2 x33_2).f0))).setCell ⟨gb331,1,none⟩ (.int .u8 ((rd_T147 l2 x33_2).f1))).heap[gb321]? = some (.cells #[.int .i64 x322000_2, .slice none 0 0] 69 (0,0))):=⟨by (with_reducible repeat (first|refine qn ?_ _|refine qd ?_|refine qa ?_ _));refine blk_far ?_ NB321_331.out _;(with_reducible repeat (first|refine qn ?_ _|refine qd ?_|refine qa ?_ _));refine blk_far ?_ NB321_331.out _;(with_reducible repeat (first|refine qn ?_ _|refine qd ?_|refine qa ?_ _));exact BK321.out⟩
        have n4_:Aside0 (((w90.setCell ⟨gb331,0,none⟩ (.int .i64 ((rd_T147 l2 x33_2).f0))).setCell ⟨gb331,1,none⟩ (.int .u8 ((rd_T147 l2 x33_2).f1))).heap[gb331]? = some (.cells #[.int .i64 ((rd_T147 l2 x33_2).f0), .int .u8 ((rd_T147 l2 x33_2).f1)] 147 (0,0))):=⟨by (with_reducible repeat (first|refine qn ?_ _|refine qd ?_|refine qa ?_ _));refine blk_put (cs:=#[.int .i64 ((rd_T147 l2 x33_2).f0), .int .u8 0]) ?_ 1 _ rfl;(with_reducible repeat (first|refine qn ?_ _|refine qd ?_|refine qa ?_ _));refine blk_put (cs:=#[.int .i64 0, .int .u8 0]) ?_ 0 _ rfl;(with_reducible repeat (first|refine qn ?_ _|refine qd ?_|refine qa ?_ _));exact BK331.out⟩
        have n5_:Aside0 (Below w.heap.size w ((w90.setCell ⟨gb331,0,none⟩ (.int .i64 ((rd_T147 l2 x33_2).f0))).setCell ⟨gb331,1,none⟩ (.int .u8 ((rd_T147 l2 x33_2).f1)))):=⟨by repeat (first|(with_reducible first|exact HB.out|apply pa|apply pb|apply pd|refine pt ?_ GE320.out|refine pt ?_ GE321.out|refine pt ?_ GE331.out)|exact HB.out)⟩
        (try clear HO_8)
        (try clear HO_9)
        (try clear BK320)
        (try clear BK321)
        (try clear BK331)
        (try clear HB)
        generalize ((w90.setCell ⟨gb331,0,none⟩ (.int .i64 ((rd_T147 l2 x33_2).f0))).setCell ⟨gb331,1,none⟩ (.int .u8 ((rd_T147 l2 x33_2).f1)))=w94 at n0_ n1_ n2_ n3_ n4_ n5_ ⊢
        have HO_8:=n0_
        have HO_9:=n1_
        have BK320:=n2_
        have BK321:=n3_
        have BK331:=n4_
        have HB:=n5_
        clear n0_ n1_ n2_ n3_ n4_ n5_
        have n0_:=am (Kd.S_drew HO_8.out)
        have n1_:=am (Kd.R_drew HO_9.out)
        have n2_:=am (qd BK320.out)
        have n3_:=am (qd BK321.out)
        have n4_:=am (qd BK331.out)
        have n5_:=am (pd HB.out)
        clear HO_8
        clear HO_9
        clear BK320
        clear BK321
        clear BK331
        clear HB
        have HO_8:=n0_
        have HO_9:=n1_
        have BK320:=n2_
        have BK321:=n3_
        have BK331:=n4_
        have HB:=n5_
        clear n0_ n1_ n2_ n3_ n4_ n5_
        refine rS (n:=26) (S:=fun w'=>w'.cell? ⟨gb320,0,none⟩=some (.int .i64 a0_0)∧w'.cell? ⟨gb320,1,none⟩=some (.int .i64 a0_1)∧w'.cell? ⟨gb331,0,none⟩=some (.int .i64 ((rd_T147 l2 x33_2).f0))∧w'.cell? ⟨gb331,1,none⟩=some (.int .u8 ((rd_T147 l2 x33_2).f1))) (ds:=[]) [(1,39),(0,38),(2,40),(3,0),(4,42),(5,43),(6,44),(7,45),(8,46),(9,47),(10,48),(11,49),(12,50),(13,51),(14,52),(15,53),(16,54),(17,55),(18,56),(19,57),(20,58),(21,59),(22,60),(23,61),(24,62),(25,63)] d3 rfl impl_RegeneratePiece.tab7 impl_RegeneratePiece.bits7 ⟨(blk_cell BK320.out 0).trans rfl,(blk_cell BK320.out 1).trans rfl,(blk_cell BK331.out 0).trans rfl,(blk_cell BK331.out 1).trans rfl⟩ (fun hHeld HT_ HW_=>?_)
        generalize w94.drew=w95 at HO_8 HO_9 BK320 BK321 BK331 HB hHeld ⊢
        refine rR ?_
        refine rO (N:=some 41) HT_ rfl rfl d3 d8 (fun K hK=>?_)
        refine goes_ Try.func127 d3 rfl #[.agg #[.int .i64 a0_0, .int .i64 a0_1], .int .i64 ((rd_T147 l2 x33_2).f0)] d20 rfl rfl d1 ?_
        with_reducible refine (impl_Msr_isNode.calls a0_0 a0_1 ((rd_T147 l2 x33_2).f0) false _ A28.out).mono ?_
        rintro e w96 ⟨rfl,hb⟩
        refine ⟨_,rfl,?_⟩
        have n0_:=am (Kd.S_below d12 hb)
        have n1_:=am (Kd.R_below d7 hb)
        have n2_:=am (qb (g:=gb320) (o:=.cells #[.int .i64 a0_0, .int .i64 a0_1] 72 (0,0)) (by (with_reducible repeat (first|refine qn ?_ _|refine qd ?_|refine qa ?_ _));exact BK320.out) hb)
        have n3_:=am (qb (g:=gb321) (o:=.cells #[.int .i64 x322000_2, .slice none 0 0] 69 (0,0)) (by (with_reducible repeat (first|refine qn ?_ _|refine qd ?_|refine qa ?_ _));exact BK321.out) hb)
        have n4_:=am (qb (g:=gb331) (o:=.cells #[.int .i64 ((rd_T147 l2 x33_2).f0), .int .u8 ((rd_T147 l2 x33_2).f1)] 147 (0,0)) (by (with_reducible repeat (first|refine qn ?_ _|refine qd ?_|refine qa ?_ _));exact BK331.out) hb)
        have n5_:=am (pu (by repeat (first|(with_reducible first|exact HB.out|apply pa|apply pb|apply pd|refine pt ?_ GE320.out|refine pt ?_ GE321.out|refine pt ?_ GE331.out)|exact HB.out)) hb)
        clear HO_8
        clear HO_9
        clear BK320
        clear BK321
        clear BK331
        clear HB
        have HO_8:=n0_
        have HO_9:=n1_
        have BK320:=n2_
        have BK321:=n3_
        have BK331:=n4_
        have HB:=n5_
        clear n0_ n1_ n2_ n3_ n4_ n5_
        (try clear hb)
        (try clear hb2)
        (try clear hk)
        (try clear hi)
        refine hK.out _ _ ⟨(blk_cell BK320.out 0).trans rfl,(blk_cell BK320.out 1).trans rfl,(blk_cell BK331.out 0).trans rfl,(blk_cell BK331.out 1).trans rfl⟩ (fun hHeld=>?_)
        clear hK K
        refine rN (a':=?_) ?_ ?_
        rotate_left
        ·show Act.put _ (some 41) _=_
         simp only [Act.put,q1,q2,q3,i64_w,i32_w]
         rfl
        refine rR ?_
        refine rD HT_ d3 ?_
        have hnb97:=NB321_320.out
        have hnc97:=NB320_321.out
        have hcz98_0:w96.cell? ⟨gb321,0,none⟩=some (.int .i64 x322000_2):=(blk_cell BK321.out 0).trans rfl
        have hcz98_1:w96.cell? ⟨gb321,1,none⟩=some (.slice none 0 0):=(blk_cell BK321.out 1).trans rfl
        have hfz98_0:=blk_frozen BK321.out 0
        have hfz98_1:=blk_frozen BK321.out 1
        try go_wp2
        refine bodyPost_ret (results_ct rfl _ _ gb321 69 #[.int .i64 0, .slice none 0 0] (0,0) _ rfl (by (with_reducible repeat (first|refine qn ?_ _|refine qd ?_|refine qa ?_ _));refine blk_put (cs:=#[.int .i64 0, .slice none 0 0]) ?_ 1 _ rfl;(with_reducible repeat (first|refine qn ?_ _|refine qd ?_|refine qa ?_ _));refine blk_put (cs:=#[.int .i64 x322000_2, .slice none 0 0]) ?_ 0 _ rfl;(with_reducible repeat (first|refine qn ?_ _|refine qd ?_|refine qa ?_ _));exact BK321.out) Try.underlying69 rfl d3) rfl ?_
        exact ⟨_,d5,d14,by repeat (first|(with_reducible first|exact HB.out|apply pa|apply pb|apply pd|refine pt ?_ GE320.out|refine pt ?_ GE321.out|refine pt ?_ GE331.out)|exact HB.out)⟩
       rw [if_neg c27] at H
       exact absurd H d31
      rw [if_neg c26] at H
      exact absurd H d31
     rw [if_neg c25] at H
     have c25b0:decide (x33_2 < (l2.length:Int))=false:=decide_eq_false c25
     clear c25
     replace H:=Option.bind_eq_some_iff.mp H
     obtain ⟨⟨t352,t353⟩,A990,H⟩:=H
     replace H:(if t353=true then ((impl_Msr_powers.f k2 a0_0 a0_1 a1).bind fun bt356=>((impl_Msr_alpha.f a0_0 a0_1).bind fun t360=>(if 0≤t360 then (if t360≤(t352.length:Int) then ((impl_Msr_alpha.f a0_0 a0_1).bind fun t365=>(if 0≤t365 then (if t365≤(t352.length:Int) then ((impl_scaled.f k2 bt356.2 (t352.drop (t365:Int).toNat)).bind fun t370=>((impl_added.f k2 (t352.take (t360:Int).toNat) t370).bind fun t373=>(some (a1,t373,true)))) else (none)) else (none))) else (none)) else (none)))) else (some (0,([]:List Int),false)))=some (r1,r2,r3):=H
     have A99:=am A990
     clear A990
     by_cases c100:t353=true
     ·subst c100
      have H1:((impl_Msr_powers.f k2 a0_0 a0_1 a1).bind fun bt356=>((impl_Msr_alpha.f a0_0 a0_1).bind fun t360=>(if 0≤t360 then (if t360≤(t352.length:Int) then ((impl_Msr_alpha.f a0_0 a0_1).bind fun t365=>(if 0≤t365 then (if t365≤(t352.length:Int) then ((impl_scaled.f k2 bt356.2 (t352.drop (t365:Int).toNat)).bind fun t370=>((impl_added.f k2 (t352.take (t360:Int).toNat) t370).bind fun t373=>(some (a1,t373,true)))) else (none)) else (none))) else (none)) else (none))))=some (r1,r2,r3):=by rw [if_pos rfl] at H;exact H
      clear H
      have H:=H1
      clear H1
      replace H:=Option.bind_eq_some_iff.mp H
      obtain ⟨⟨t356,t359⟩,A1010,H⟩:=H
      replace H:((impl_Msr_alpha.f a0_0 a0_1).bind fun t360=>(if 0≤t360 then (if t360≤(t352.length:Int) then ((impl_Msr_alpha.f a0_0 a0_1).bind fun t365=>(if 0≤t365 then (if t365≤(t352.length:Int) then ((impl_scaled.f k2 t359 (t352.drop (t365:Int).toNat)).bind fun t370=>((impl_added.f k2 (t352.take (t360:Int).toNat) t370).bind fun t373=>(some (a1,t373,true)))) else (none)) else (none))) else (none)) else (none)))=some (r1,r2,r3):=H
      have A101:=am A1010
      clear A1010
      replace H:=Option.bind_eq_some_iff.mp H
      obtain ⟨t360,A1020,H⟩:=H
      replace H:(if 0≤t360 then (if t360≤(t352.length:Int) then ((impl_Msr_alpha.f a0_0 a0_1).bind fun t365=>(if 0≤t365 then (if t365≤(t352.length:Int) then ((impl_scaled.f k2 t359 (t352.drop (t365:Int).toNat)).bind fun t370=>((impl_added.f k2 (t352.take (t360:Int).toNat) t370).bind fun t373=>(some (a1,t373,true)))) else (none)) else (none))) else (none)) else (none))=some (r1,r2,r3):=H
      have A102:=am A1020
      clear A1020
      by_cases c103:0≤t360
      ·rw [if_pos c103] at H
       have c103b0:=eq_true c103
       have c103b1:decide (0≤t360)=true:=decide_eq_true c103
       clear c103
       by_cases c104:t360≤(t352.length:Int)
       ·rw [if_pos c104] at H
        have c104b0:=eq_true c104
        have c104b1:decide (t360≤(t352.length:Int))=true:=decide_eq_true c104
        clear c104
        obtain ⟨y361,hy361⟩:∃ y_:List Int,y_=(t352.take (t360:Int).toNat):=⟨_,rfl⟩
        replace H:((impl_Msr_alpha.f a0_0 a0_1).bind fun t365=>(if 0≤t365 then (if t365≤(t352.length:Int) then ((impl_scaled.f k2 t359 (t352.drop (t365:Int).toNat)).bind fun t370=>((impl_added.f k2 y361 t370).bind fun t373=>(some (a1,t373,true)))) else (none)) else (none)))=some (r1,r2,r3):=by first|(rw [hy361];with_reducible exact H)|(have H2_:=(Option.bind_some _ _).symm.trans H;rw [hy361];with_reducible exact H2_)|(have H2_:=(Option.bind_some _ _).symm.trans H;with_reducible exact H2_)|with_reducible exact H|(rw [hy361];exact H)|exact H
        have Ny361:=am hy361
        clear hy361
        replace H:=Option.bind_eq_some_iff.mp H
        obtain ⟨t365,A1050,H⟩:=H
        replace H:(if 0≤t365 then (if t365≤(t352.length:Int) then ((impl_scaled.f k2 t359 (t352.drop (t365:Int).toNat)).bind fun t370=>((impl_added.f k2 y361 t370).bind fun t373=>(some (a1,t373,true)))) else (none)) else (none))=some (r1,r2,r3):=H
        have A105:=am A1050
        clear A1050
        by_cases c106:0≤t365
        ·rw [if_pos c106] at H
         have c106b0:=eq_true c106
         have c106b1:decide (0≤t365)=true:=decide_eq_true c106
         clear c106
         by_cases c107:t365≤(t352.length:Int)
         ·rw [if_pos c107] at H
          have c107b0:=eq_true c107
          have c107b1:decide (t365≤(t352.length:Int))=true:=decide_eq_true c107
          clear c107
          obtain ⟨y366,hy366⟩:∃ y_:List Int,y_=(t352.drop (t365:Int).toNat):=⟨_,rfl⟩
          replace H:((impl_scaled.f k2 t359 y366).bind fun t370=>((impl_added.f k2 y361 t370).bind fun t373=>(some (a1,t373,true))))=some (r1,r2,r3):=by first|(rw [hy366];with_reducible exact H)|(have H2_:=(Option.bind_some _ _).symm.trans H;rw [hy366];with_reducible exact H2_)|(have H2_:=(Option.bind_some _ _).symm.trans H;with_reducible exact H2_)|with_reducible exact H|(rw [hy366];exact H)|exact H
          have Ny366:=am hy366
          clear hy366
          replace H:=Option.bind_eq_some_iff.mp H
          obtain ⟨t370,A1080,H⟩:=H
          replace H:((impl_added.f k2 y361 t370).bind fun t373=>(some (a1,t373,true)))=some (r1,r2,r3):=H
          have A108:=am A1080
          clear A1080
          replace H:=Option.bind_eq_some_iff.mp H
          obtain ⟨t373,A1090,H⟩:=H
          replace H:(some (a1,t373,true))=some (r1,r2,r3):=H
          have A109:=am A1090
          clear A1090
          simp only [Option.some.injEq,Prod.mk.injEq] at H
          obtain ⟨rfl,rfl,rfl⟩:=H
          obtain ⟨Ao110,co110,eo110⟩:=Kd.S_slice HO_8.out
          subst eo110
          obtain ⟨Ao111,co111,eo111⟩:=Kd.R_slice HO_9.out
          subst eo111
          try go_wp2_with (first|((with_reducible refine gate_callee (f:=119) rfl ?_);refine goesL_ (some 81) rfl rfl Try.func119 d3 rfl #[.slice Ao110 x8_2.length co110, .slice Ao111 x9_2.length co111] rfl d1 ?_;(with_reducible refine (impl_solve.calls k2 _ _ x8_2 _ _ x9_2 t352 true _ ?side1 ?side2 ?side3 ?side4 A99.out).mono ?_);(case side1=>repeat (first|exact (Kd.S_reads' HO_8.out).2.2|(with_reducible refine Kd.C_alloc ?_ _)|(with_reducible refine Kd.C_drewN ?_ _)|(with_reducible refine Kd.C_drew ?_)));(case side2=>exact (Kd.S_reads' HO_8.out).2.1);(case side3=>repeat (first|exact (Kd.R_reads' HO_9.out).2.2|(with_reducible refine Kd.C_alloc ?_ _)|(with_reducible refine Kd.C_drewN ?_ _)|(with_reducible refine Kd.C_drew ?_)));(case side4=>exact (Kd.R_reads' HO_9.out).2.1);rintro e w112 ⟨v354,rfl,ho0,hb⟩;refine ⟨_,rfl,?_⟩;have n0_:=am (Kd.S_elder' d12 (Kd.R_base ho0) hb);have n1_:=am (Kd.R_elder' d7 (Kd.R_base ho0) hb);have n2_:=am (Kd.R_lower (Kd.R_new' ho0 (Kd.R_lt d7)) (pz (by repeat (first|(with_reducible first|exact HB.out|apply pa|apply pb|apply pd|refine pt ?_ GE320.out|refine pt ?_ GE321.out)|exact HB.out))));have n3_:=am (qb (g:=gb320) (o:=.cells #[.int .i64 a0_0, .int .i64 a0_1] 72 (0,0)) (by (with_reducible repeat (first|refine qn ?_ _|refine qd ?_|refine qa ?_ _));exact BK320.out) hb);have n4_:=am (qb (g:=gb321) (o:=.cells #[.int .i64 x322000_2, .slice none 0 0] 69 (0,0)) (by (with_reducible repeat (first|refine qn ?_ _|refine qd ?_|refine qa ?_ _));exact BK321.out) hb);have n5_:=am (pu (by repeat (first|(with_reducible first|exact HB.out|apply pa|apply pb|apply pd|refine pt ?_ GE320.out|refine pt ?_ GE321.out)|exact HB.out)) hb);clear HO_8;clear HO_9;clear BK320;clear BK321;clear HB;have HO_8:=n0_;have HO_9:=n1_;have HO355:=n2_;have BK320:=n3_;have BK321:=n4_;have HB:=n5_;clear n0_ n1_ n2_ n3_ n4_ n5_;(try clear hb);(try clear hb2);(try clear hk);(try clear hi);(try clear ho0);have hnb113:=NB320_321.out;have hnc113:=NB321_320.out;have hcz114_0:w112.cell? ⟨gb320,0,none⟩=some (.int .i64 a0_0):=(blk_cell BK320.out 0).trans rfl;have hcz114_1:w112.cell? ⟨gb320,1,none⟩=some (.int .i64 a0_1):=(blk_cell BK320.out 1).trans rfl;have hfz114_0:=blk_frozen BK320.out 0;have hfz114_1:=blk_frozen BK320.out 1)|((with_reducible refine gate_callee (f:=130) rfl ?_);refine goesL_ (some 90) rfl rfl Try.func130 d3 rfl #[.agg #[.int .i64 a0_0, .int .i64 a0_1], .int .i64 a1] rfl d1 ?_;(with_reducible refine (impl_Msr_powers.calls k2 a0_0 a0_1 a1 t356 t359 _ A101.out).mono ?_);rintro e w115 ⟨v357,rfl,ho0,hb⟩;refine ⟨_,rfl,?_⟩;have n0_:=am (Kd.S_elder' d12 (Kd.R_base ho0) hb);have n1_:=am (Kd.R_elder' d7 (Kd.R_base ho0) hb);have n2_:=am (Kd.R_elder' d28 (Kd.R_base ho0) hb);have n3_:=am (Kd.R_lower (Kd.R_new' (Kd.R_new' ho0 (Kd.R_lt d7)) (Kd.R_lt d28)) (pz (by repeat (first|(with_reducible first|exact HB.out|apply pa|apply pb|apply pd|refine pt ?_ GE320.out|refine pt ?_ GE321.out)|exact HB.out))));have n4_:=am (qb (g:=gb320) (o:=.cells #[.int .i64 a0_0, .int .i64 a0_1] 72 (0,0)) (by (with_reducible repeat (first|refine qn ?_ _|refine qd ?_|refine qa ?_ _));exact BK320.out) hb);have n5_:=am (qb (g:=gb321) (o:=.cells #[.int .i64 x322000_2, .slice none 0 0] 69 (0,0)) (by (with_reducible repeat (first|refine qn ?_ _|refine qd ?_|refine qa ?_ _));exact BK321.out) hb);have n6_:=am (pu (by repeat (first|(with_reducible first|exact HB.out|apply pa|apply pb|apply pd|refine pt ?_ GE320.out|refine pt ?_ GE321.out)|exact HB.out)) hb);clear HO_8;clear HO_9;clear HO355;clear BK320;clear BK321;clear HB;have HO_8:=n0_;have HO_9:=n1_;have HO355:=n2_;have HO358:=n3_;have BK320:=n4_;have BK321:=n5_;have HB:=n6_;clear n0_ n1_ n2_ n3_ n4_ n5_ n6_;(try clear hb);(try clear hb2);(try clear hk);(try clear hi);(try clear ho0)))
          have n0_:=am (Kd.S_drew HO_8.out)
          have n1_:=am (Kd.R_drew HO_9.out)
          have n2_:=am (Kd.R_drew HO355.out)
          have n3_:=am (Kd.R_drew HO358.out)
          have n4_:=am (qd BK320.out)
          have n5_:=am (qd BK321.out)
          have n6_:=am (pd HB.out)
          clear HO_8
          clear HO_9
          clear HO355
          clear HO358
          clear BK320
          clear BK321
          clear HB
          have HO_8:=n0_
          have HO_9:=n1_
          have HO355:=n2_
          have HO358:=n3_
          have BK320:=n4_
          have BK321:=n5_
          have HB:=n6_
          clear n0_ n1_ n2_ n3_ n4_ n5_ n6_
          refine rS (n:=15) (S:=fun w'=>w'.cell? ⟨gb320,0,none⟩=some (.int .i64 a0_0)∧w'.cell? ⟨gb320,1,none⟩=some (.int .i64 a0_1)) (ds:=[]) [(0,93),(1,94),(5,98),(6,99),(2,95),(7,100),(3,0),(4,97),(8,0),(9,102),(10,0),(11,0),(12,105),(13,0),(14,7)] d3 rfl impl_RegeneratePiece.tab16 impl_RegeneratePiece.bits16 ⟨(blk_cell BK320.out 0).trans rfl,(blk_cell BK320.out 1).trans rfl⟩ (fun hHeld HT_ HW_=>?_)
          generalize w115.drew=w116 at HO_8 HO_9 HO355 HO358 BK320 BK321 HB hHeld ⊢
          refine rR ?_
          refine rO (N:=some 96) HT_ rfl rfl d3 d8 (fun K hK=>?_)
          refine goes_ Try.func128 d3 rfl #[.agg #[.int .i64 a0_0, .int .i64 a0_1]] d20 rfl rfl d1 ?_
          with_reducible refine (impl_Msr_alpha.calls a0_0 a0_1 t360 _ A102.out).mono ?_
          rintro e w117 ⟨rfl,hb⟩
          refine ⟨_,rfl,?_⟩
          have n0_:=am (Kd.S_below d12 hb)
          have n1_:=am (Kd.R_below d7 hb)
          have n2_:=am (Kd.R_below d28 hb)
          have n3_:=am (Kd.R_below d32 hb)
          have n4_:=am (qb (g:=gb320) (o:=.cells #[.int .i64 a0_0, .int .i64 a0_1] 72 (0,0)) (by (with_reducible repeat (first|refine qn ?_ _|refine qd ?_|refine qa ?_ _));exact BK320.out) hb)
          have n5_:=am (qb (g:=gb321) (o:=.cells #[.int .i64 x322000_2, .slice none 0 0] 69 (0,0)) (by (with_reducible repeat (first|refine qn ?_ _|refine qd ?_|refine qa ?_ _));exact BK321.out) hb)
          have n6_:=am (pu (by repeat (first|(with_reducible first|exact HB.out|apply pa|apply pb|apply pd|refine pt ?_ GE320.out|refine pt ?_ GE321.out)|exact HB.out)) hb)
          clear HO_8
          clear HO_9
          clear HO355
          clear HO358
          clear BK320
          clear BK321
          clear HB
          have HO_8:=n0_
          have HO_9:=n1_
          have HO355:=n2_
          have HO358:=n3_
          have BK320:=n4_
          have BK321:=n5_
          have HB:=n6_
          clear n0_ n1_ n2_ n3_ n4_ n5_ n6_
          (try clear hb)
          (try clear hb2)
          (try clear hk)
          (try clear hi)
          obtain ⟨Ao119,co119,eo119⟩:=Kd.R_slice HO355.out
          (first|subst eo119|(injection eo119 with f1_ f2_ f3_;have f4_:=f1_.symm;have f5_:=f3_.symm;clear f1_ f2_ f3_;subst f4_;subst f5_))
          have q118:(t360:Int)≤((t352.length:Int):Int):=od d2
          obtain ⟨i0118,hi0118,_,hsz118,_⟩:=info_parts info5
          have hroom118:t352.length≤co119:=(Kd.R_reads' HO355.out).2.1
          have hC118:Kd.C (Kd.int .u8) _ Ao119 t352.length t352:=(Kd.R_reads' HO355.out).2.2
          have hcut118:=cut_to (P:=Try.prog) 57 5 .i64 Try.underlying57 hi0118 Ao119 t352.length co119 t360 (od d2) q118 hroom118
          have hr118:=Kd.C_take (m:=(t360:Int).toNat) hC118 d15
          have hy118:y361.length=(t360:Int).toNat:=(by rw [Ny361.out,List.length_take];omega)
          rw [← Ny361.out] at hr118
          rw [← hy118] at hcut118
          have HR364:=am hr118
          have HC364:=am (show y361.length≤co119 from by omega)
          clear hr118 hC118 hroom118 hi0118 hsz118
          have KY118:=am hy118
          clear hy118
          have KL118:=am (show (t360:Int).toNat≤t352.length from by omega)
          replace q118:=eq_true q118
          refine hK.out _ _ ⟨(blk_cell BK320.out 0).trans rfl,(blk_cell BK320.out 1).trans rfl⟩ (fun hHeld=>?_)
          clear hK K
          refine rN (a':=?_) ?_ ?_
          rotate_left
          ·show Act.put _ (some 96) _=_
           simp only [Act.put,q1,q2,q3,i64_w,i32_w]
           rfl
          refine rR ?_
          refine rO (N:=some 101) HT_ rfl rfl d3 d8 (fun K hK=>?_)
          refine goes_ Try.func128 d3 rfl #[.agg #[.int .i64 a0_0, .int .i64 a0_1]] d20 rfl rfl d1 ?_
          with_reducible refine (impl_Msr_alpha.calls a0_0 a0_1 t365 _ A105.out).mono ?_
          rintro e w120 ⟨rfl,hb⟩
          refine ⟨_,rfl,?_⟩
          have n0_:=am (Kd.S_below d12 hb)
          have n1_:=am (Kd.R_below d7 hb)
          have n2_:=am (Kd.R_below d28 hb)
          have n3_:=am (Kd.R_below d32 hb)
          have n4_:=am (qb (g:=gb320) (o:=.cells #[.int .i64 a0_0, .int .i64 a0_1] 72 (0,0)) (by (with_reducible repeat (first|refine qn ?_ _|refine qd ?_|refine qa ?_ _));exact BK320.out) hb)
          have n5_:=am (qb (g:=gb321) (o:=.cells #[.int .i64 x322000_2, .slice none 0 0] 69 (0,0)) (by (with_reducible repeat (first|refine qn ?_ _|refine qd ?_|refine qa ?_ _));exact BK321.out) hb)
          have n6_:=am (Kd.C_below (by repeat (first|(with_reducible exact HR364.out)|(with_reducible refine Kd.C_alloc ?_ _)|(with_reducible refine Kd.C_drewN ?_ _)|(with_reducible refine Kd.C_drew ?_)|exact HR364.out)) hb)
          have n7_:=am (pu (by repeat (first|(with_reducible first|exact HB.out|apply pa|apply pb|apply pd|refine pt ?_ GE320.out|refine pt ?_ GE321.out)|exact HB.out)) hb)
          clear HO_8
          clear HO_9
          clear HO355
          clear HO358
          clear BK320
          clear BK321
          clear HR364
          clear HB
          have HO_8:=n0_
          have HO_9:=n1_
          have HO355:=n2_
          have HO358:=n3_
          have BK320:=n4_
          have BK321:=n5_
          have HR364:=n6_
          have HB:=n7_
          clear n0_ n1_ n2_ n3_ n4_ n5_ n6_ n7_
          (try clear hb)
          (try clear hb2)
          (try clear hk)
          (try clear hi)
          have q121:(t365:Int)≤((t352.length:Int):Int):=od d2
          obtain ⟨i0121,hi0121,_,hsz121,_⟩:=info_parts info5
          have hroom121:t352.length≤co119:=(Kd.R_reads' HO355.out).2.1
          have hC121:Kd.C (Kd.int .u8) _ Ao119 t352.length t352:=(Kd.R_reads' HO355.out).2.2
          have q0121:(0:Int)≤(t365:Int):=od d2
          have hcut121:=cut_from (P:=Try.prog) 57 5 .i64 Try.underlying57 hi0121 1 hsz121 Ao119 t352.length co119 t365 q0121 q121
          have hr121:=Kd.C_drop (m:=(t365:Int).toNat) (c:=co119) hC121 d15 hroom121
          obtain ⟨A121,hA121⟩:∃ A1,A1=(if co119=(t365:Int).toNat then Ao119 else (Ao119:Option Addr).map (·.add ((t365:Int).toNat*1))):=⟨_,rfl⟩
          obtain ⟨c121,hc121⟩:∃ c1,c1=co119 - (t365:Int).toNat:=⟨_,rfl⟩
          have hy121:y366.length=t352.length - (t365:Int).toNat:=(by rw [Ny366.out,List.length_drop] <;> omega)
          rw [show (t352).drop (t365:Int).toNat=y366 from Ny366.out.symm] at hr121
          replace hr121:Kd.C (Kd.int .u8) _ A121 y366.length y366:=(by rw [hA121];exact hr121)
          rw [← hy121,← hA121,← hc121] at hcut121
          have HR369:=am hr121
          have HC369:=am (show y366.length≤c121 from by rw [hy121,hc121];exact Nat.sub_le_sub_right hroom121 _)
          clear hr121 hC121 hroom121 hi0121 hsz121 hc121
          have KY121:=am hy121
          have KA121:=am hA121
          clear hy121 hA121
          have KL121:=am (show (t365:Int).toNat≤t352.length from by omega)
          replace q121:=eq_true q121
          refine hK.out _ _ ⟨(blk_cell BK320.out 0).trans rfl,(blk_cell BK320.out 1).trans rfl⟩ (fun hHeld=>?_)
          clear hK K
          refine rN (a':=?_) ?_ ?_
          rotate_left
          ·show Act.put _ (some 101) _=_
           simp only [Act.put,q1,q2,q3,i64_w,i32_w]
           rfl
          refine rR ?_
          refine rO (N:=some 103) HT_ rfl rfl d3 d8 (fun K hK=>?_)
          refine goes_ Try.func132 d3 rfl #[.int .u8 t359, .slice A121 y366.length c121] d20 rfl rfl d1 ?_
          with_reducible refine (impl_scaled.calls k2 t359 _ _ y366 t370 _ ?side1 ?side2 A108.out).mono ?_
          (case side1=>repeat (first|exact (by repeat (first|(with_reducible exact HR369.out)|(with_reducible refine Kd.C_alloc ?_ _)|(with_reducible refine Kd.C_drewN ?_ _)|(with_reducible refine Kd.C_drew ?_)|exact HR369.out))|(with_reducible refine Kd.C_alloc ?_ _)|(with_reducible refine Kd.C_drewN ?_ _)|(with_reducible refine Kd.C_drew ?_)))
          (case side2=>exact HC369.out)
          rintro e w122 ⟨v371,rfl,ho0,hb⟩
          refine ⟨_,rfl,?_⟩
          have n0_:=am (Kd.S_elder' d12 (Kd.R_base ho0) hb)
          have n1_:=am (Kd.R_elder' d7 (Kd.R_base ho0) hb)
          have n2_:=am (Kd.R_elder' d28 (Kd.R_base ho0) hb)
          have n3_:=am (Kd.R_elder' d32 (Kd.R_base ho0) hb)
          have n4_:=am (Kd.R_lower (Kd.R_new' (Kd.R_new' (Kd.R_new' ho0 (Kd.R_lt d7)) (Kd.R_lt d28)) (Kd.R_lt d32)) (pz (by repeat (first|(with_reducible first|exact HB.out|apply pa|apply pb|apply pd|refine pt ?_ GE320.out|refine pt ?_ GE321.out)|exact HB.out))))
          have n5_:=am (qb (g:=gb320) (o:=.cells #[.int .i64 a0_0, .int .i64 a0_1] 72 (0,0)) (by (with_reducible repeat (first|refine qn ?_ _|refine qd ?_|refine qa ?_ _));exact BK320.out) hb)
          have n6_:=am (qb (g:=gb321) (o:=.cells #[.int .i64 x322000_2, .slice none 0 0] 69 (0,0)) (by (with_reducible repeat (first|refine qn ?_ _|refine qd ?_|refine qa ?_ _));exact BK321.out) hb)
          have n7_:=am (Kd.C_below (by repeat (first|(with_reducible exact HR364.out)|(with_reducible refine Kd.C_alloc ?_ _)|(with_reducible refine Kd.C_drewN ?_ _)|(with_reducible refine Kd.C_drew ?_)|exact HR364.out)) hb)
          have n8_:=am (Kd.C_below (by repeat (first|(with_reducible exact HR369.out)|(with_reducible refine Kd.C_alloc ?_ _)|(with_reducible refine Kd.C_drewN ?_ _)|(with_reducible refine Kd.C_drew ?_)|exact HR369.out)) hb)
          have n9_:=am (pu (by repeat (first|(with_reducible first|exact HB.out|apply pa|apply pb|apply pd|refine pt ?_ GE320.out|refine pt ?_ GE321.out)|exact HB.out)) hb)
          clear HO_8
          clear HO_9
          clear HO355
          clear HO358
          clear BK320
          clear BK321
          clear HR364
          clear HR369
          clear HB
          have HO_8:=n0_
          have HO_9:=n1_
          have HO355:=n2_
          have HO358:=n3_
          have HO372:=n4_
          have BK320:=n5_
          have BK321:=n6_
          have HR364:=n7_
          have HR369:=n8_
          have HB:=n9_
          clear n0_ n1_ n2_ n3_ n4_ n5_ n6_ n7_ n8_ n9_
          (try clear hb)
          (try clear hb2)
          (try clear hk)
          (try clear hi)
          (try clear ho0)
          obtain ⟨Ao123,co123,eo123⟩:=Kd.R_slice HO372.out
          (first|subst eo123|(injection eo123 with f1_ f2_ f3_;have f4_:=f1_.symm;have f5_:=f3_.symm;clear f1_ f2_ f3_;subst f4_;subst f5_))
          refine hK.out _ _ ⟨(blk_cell BK320.out 0).trans rfl,(blk_cell BK320.out 1).trans rfl⟩ (fun hHeld=>?_)
          clear hK K
          refine rN (a':=?_) ?_ ?_
          rotate_left
          ·show Act.put _ (some 103) _=_
           simp only [Act.put,q1,q2,q3,i64_w,i32_w]
           rfl
          refine rO (N:=some 104) HT_ rfl rfl d3 d8 (fun K hK=>?_)
          refine goes_ Try.func131 d3 rfl #[.slice Ao119 y361.length co119, .slice Ao123 t370.length co123] d20 rfl rfl d1 ?_
          with_reducible refine (impl_added.calls k2 _ _ y361 _ _ t370 t373 _ ?side1 ?side2 ?side3 ?side4 A109.out).mono ?_
          (case side1=>repeat (first|exact (by repeat (first|(with_reducible exact HR364.out)|(with_reducible refine Kd.C_alloc ?_ _)|(with_reducible refine Kd.C_drewN ?_ _)|(with_reducible refine Kd.C_drew ?_)|exact HR364.out))|(with_reducible refine Kd.C_alloc ?_ _)|(with_reducible refine Kd.C_drewN ?_ _)|(with_reducible refine Kd.C_drew ?_)))
          (case side2=>exact HC364.out)
          (case side3=>repeat (first|exact (Kd.R_reads' HO372.out).2.2|(with_reducible refine Kd.C_alloc ?_ _)|(with_reducible refine Kd.C_drewN ?_ _)|(with_reducible refine Kd.C_drew ?_)))
          (case side4=>exact (Kd.R_reads' HO372.out).2.1)
          rintro e w124 ⟨v374,rfl,ho0,hb⟩
          refine ⟨_,rfl,?_⟩
          have n0_:=am (Kd.S_elder' d12 (Kd.R_base ho0) hb)
          have n1_:=am (Kd.R_elder' d7 (Kd.R_base ho0) hb)
          have n2_:=am (Kd.R_elder' d28 (Kd.R_base ho0) hb)
          have n3_:=am (Kd.R_elder' d32 (Kd.R_base ho0) hb)
          have n4_:=am (Kd.R_elder' (by (with_reducible repeat (first|apply Kd.R_alloc|apply Kd.R_drewN|apply Kd.R_drew));exact HO372.out) (Kd.R_base ho0) hb)
          have n5_:=am (Kd.R_lower (Kd.R_new' (Kd.R_new' (Kd.R_new' (Kd.R_new' ho0 (Kd.R_lt d7)) (Kd.R_lt d28)) (Kd.R_lt d32)) (Kd.R_lt (by (with_reducible repeat (first|apply Kd.R_alloc|apply Kd.R_drewN|apply Kd.R_drew));exact HO372.out))) (pz (by repeat (first|(with_reducible first|exact HB.out|apply pa|apply pb|apply pd|refine pt ?_ GE320.out|refine pt ?_ GE321.out)|exact HB.out))))
          have n6_:=am (qb (g:=gb320) (o:=.cells #[.int .i64 a0_0, .int .i64 a0_1] 72 (0,0)) (by (with_reducible repeat (first|refine qn ?_ _|refine qd ?_|refine qa ?_ _));exact BK320.out) hb)
          have n7_:=am (qb (g:=gb321) (o:=.cells #[.int .i64 x322000_2, .slice none 0 0] 69 (0,0)) (by (with_reducible repeat (first|refine qn ?_ _|refine qd ?_|refine qa ?_ _));exact BK321.out) hb)
          have n8_:=am (Kd.C_below (by repeat (first|(with_reducible exact HR364.out)|(with_reducible refine Kd.C_alloc ?_ _)|(with_reducible refine Kd.C_drewN ?_ _)|(with_reducible refine Kd.C_drew ?_)|exact HR364.out)) hb)
          have n9_:=am (Kd.C_below (by repeat (first|(with_reducible exact HR369.out)|(with_reducible refine Kd.C_alloc ?_ _)|(with_reducible refine Kd.C_drewN ?_ _)|(with_reducible refine Kd.C_drew ?_)|exact HR369.out)) hb)
          have n10_:=am (pu (by repeat (first|(with_reducible first|exact HB.out|apply pa|apply pb|apply pd|refine pt ?_ GE320.out|refine pt ?_ GE321.out)|exact HB.out)) hb)
          clear HO_8
          clear HO_9
          clear HO355
          clear HO358
          clear HO372
          clear BK320
          clear BK321
          clear HR364
          clear HR369
          clear HB
          have HO_8:=n0_
          have HO_9:=n1_
          have HO355:=n2_
          have HO358:=n3_
          have HO372:=n4_
          have HO375:=n5_
          have BK320:=n6_
          have BK321:=n7_
          have HR364:=n8_
          have HR369:=n9_
          have HB:=n10_
          clear n0_ n1_ n2_ n3_ n4_ n5_ n6_ n7_ n8_ n9_ n10_
          (try clear hb)
          (try clear hb2)
          (try clear hk)
          (try clear hi)
          (try clear ho0)
          obtain ⟨Ao125,co125,eo125⟩:=Kd.R_slice HO375.out
          (first|subst eo125|(injection eo125 with f1_ f2_ f3_;have f4_:=f1_.symm;have f5_:=f3_.symm;clear f1_ f2_ f3_;subst f4_;subst f5_))
          refine hK.out _ _ ⟨(blk_cell BK320.out 0).trans rfl,(blk_cell BK320.out 1).trans rfl⟩ (fun hHeld=>?_)
          clear hK K
          refine rN (a':=?_) ?_ ?_
          rotate_left
          ·show Act.put _ (some 104) _=_
           simp only [Act.put,q1,q2,q3,i64_w,i32_w]
           rfl
          refine rR ?_
          refine rO (N:=none) HT_ rfl rfl d3 d8 (fun K hK=>?_)
          have hs126:w124.cell? ⟨gb321,0,none⟩=some (.int .i64 x322000_2):=(blk_cell BK321.out 0).trans rfl
          have hfs126:=blk_frozen BK321.out 0
          have hns126_0:=NB320_321.out
          have hms126_0:=NB321_320.out
          have hs127:w124.cell? ⟨gb321,1,none⟩=some (.slice none 0 0):=(blk_cell BK321.out 1).trans rfl
          have hfs127:=blk_frozen BK321.out 1
          have hns127_0:=NB320_321.out
          have hms127_0:=NB321_320.out
          refine skip_ (w1:=?_) d20 rfl ?_ ?_
          rotate_left
          ·go_simp
           rfl
          refine hK.out _ _ ⟨((cell_far (p:=⟨gb321,_,none⟩) NB320_321.out _).trans (((cell_far (p:=⟨gb321,_,none⟩) NB320_321.out _).trans (hHeld.1)))),((cell_far (p:=⟨gb321,_,none⟩) NB320_321.out _).trans (((cell_far (p:=⟨gb321,_,none⟩) NB320_321.out _).trans (hHeld.2))))⟩ (fun hHeld=>?_)
          clear hK K
          refine rR ?_
          refine rD HT_ d3 ?_
          try go_wp2
          refine bodyPost_ret (results_ct rfl _ _ gb321 69 #[.int .i64 a1, .slice Ao125 t373.length co125] (0,0) _ rfl (by (with_reducible repeat (first|refine qn ?_ _|refine qd ?_|refine qa ?_ _));refine blk_put (cs:=#[.int .i64 a1, .slice none 0 0]) ?_ 1 _ rfl;(with_reducible repeat (first|refine qn ?_ _|refine qd ?_|refine qa ?_ _));refine blk_put (cs:=#[.int .i64 x322000_2, .slice none 0 0]) ?_ 0 _ rfl;(with_reducible repeat (first|refine qn ?_ _|refine qd ?_|refine qa ?_ _));exact BK321.out) Try.underlying69 rfl d3) rfl ?_
          exact ⟨_,d5,by (with_reducible repeat (first|apply Kd.R_alloc|apply Kd.R_drewN|apply Kd.R_drew));exact Kd.R_mono (Kd.R_far (p:=⟨gb321,1,none⟩) (Kd.R_far (p:=⟨gb321,0,none⟩) (Kd.R_types HO375.out BK321.out d8) (fun _ hk=>hk.2) (.int .i64 a1)) (fun _ hk=>hk.2) (.slice Ao125 t373.length co125)) (fun _ hk=>trivial),by repeat (first|(with_reducible first|exact HB.out|apply pa|apply pb|apply pd|refine pt ?_ GE320.out|refine pt ?_ GE321.out)|exact HB.out)⟩
         rw [if_neg c107] at H
         exact absurd H d31
        rw [if_neg c106] at H
        exact absurd H d31
       rw [if_neg c104] at H
       exact absurd H d31
      rw [if_neg c103] at H
      exact absurd H d31
     replace c100:=Bool.eq_false_iff.mpr c100
     subst c100
     have H1:(some (0,([]:List Int),false))=some (r1,r2,r3):=by rw [if_neg (show ¬ (false=true) by decide)] at H;exact H
     clear H
     have H:=H1
     clear H1
     simp only [Option.some.injEq,Prod.mk.injEq] at H
     obtain ⟨rfl,rfl,rfl⟩:=H
     obtain ⟨Ao128,co128,eo128⟩:=Kd.S_slice HO_8.out
     subst eo128
     obtain ⟨Ao129,co129,eo129⟩:=Kd.R_slice HO_9.out
     subst eo129
     go_wp2_with (first|((with_reducible refine gate_callee (f:=119) rfl ?_);refine goesL_ (some 81) rfl rfl Try.func119 d3 rfl #[.slice Ao128 x8_2.length co128, .slice Ao129 x9_2.length co129] rfl d1 ?_;(with_reducible refine (impl_solve.calls k2 _ _ x8_2 _ _ x9_2 t352 false _ ?side1 ?side2 ?side3 ?side4 A99.out).mono ?_);(case side1=>repeat (first|exact (Kd.S_reads' HO_8.out).2.2|(with_reducible refine Kd.C_alloc ?_ _)|(with_reducible refine Kd.C_drewN ?_ _)|(with_reducible refine Kd.C_drew ?_)));(case side2=>exact (Kd.S_reads' HO_8.out).2.1);(case side3=>repeat (first|exact (Kd.R_reads' HO_9.out).2.2|(with_reducible refine Kd.C_alloc ?_ _)|(with_reducible refine Kd.C_drewN ?_ _)|(with_reducible refine Kd.C_drew ?_)));(case side4=>exact (Kd.R_reads' HO_9.out).2.1);rintro e w130 ⟨v354,rfl,ho0,hb⟩;refine ⟨_,rfl,?_⟩;have n0_:=am (Kd.S_elder' d12 (Kd.R_base ho0) hb);have n1_:=am (Kd.R_elder' d7 (Kd.R_base ho0) hb);have n2_:=am (Kd.R_lower (Kd.R_new' ho0 (Kd.R_lt d7)) (pz (by repeat (first|(with_reducible first|exact HB.out|apply pa|apply pb|apply pd|refine pt ?_ GE320.out|refine pt ?_ GE321.out)|exact HB.out))));have n3_:=am (qb (g:=gb320) (o:=.cells #[.int .i64 a0_0, .int .i64 a0_1] 72 (0,0)) (by (with_reducible repeat (first|refine qn ?_ _|refine qd ?_|refine qa ?_ _));exact BK320.out) hb);have n4_:=am (qb (g:=gb321) (o:=.cells #[.int .i64 x322000_2, .slice none 0 0] 69 (0,0)) (by (with_reducible repeat (first|refine qn ?_ _|refine qd ?_|refine qa ?_ _));exact BK321.out) hb);have n5_:=am (pu (by repeat (first|(with_reducible first|exact HB.out|apply pa|apply pb|apply pd|refine pt ?_ GE320.out|refine pt ?_ GE321.out)|exact HB.out)) hb);clear HO_8;clear HO_9;clear BK320;clear BK321;clear HB;have HO_8:=n0_;have HO_9:=n1_;have HO355:=n2_;have BK320:=n3_;have BK321:=n4_;have HB:=n5_;clear n0_ n1_ n2_ n3_ n4_ n5_;(try clear hb);(try clear hb2);(try clear hk);(try clear hi);(try clear ho0);have hnb131:=NB321_320.out;have hnc131:=NB320_321.out;have hcz132_0:w130.cell? ⟨gb321,0,none⟩=some (.int .i64 x322000_2):=(blk_cell BK321.out 0).trans rfl;have hcz132_1:w130.cell? ⟨gb321,1,none⟩=some (.slice none 0 0):=(blk_cell BK321.out 1).trans rfl;have hfz132_0:=blk_frozen BK321.out 0;have hfz132_1:=blk_frozen BK321.out 1))
     refine bodyPost_ret (results_ct rfl _ _ gb321 69 #[.int .i64 0, .slice none 0 0] (0,0) _ rfl (by (with_reducible repeat (first|refine qn ?_ _|refine qd ?_|refine qa ?_ _));refine blk_put (cs:=#[.int .i64 0, .slice none 0 0]) ?_ 1 _ rfl;(with_reducible repeat (first|refine qn ?_ _|refine qd ?_|refine qa ?_ _));refine blk_put (cs:=#[.int .i64 x322000_2, .slice none 0 0]) ?_ 0 _ rfl;(with_reducible repeat (first|refine qn ?_ _|refine qd ?_|refine qa ?_ _));exact BK321.out) Try.underlying69 rfl d3) rfl ?_
     exact ⟨_,d5,d14,by repeat (first|(with_reducible first|exact HB.out|apply pa|apply pb|apply pd|refine pt ?_ GE320.out|refine pt ?_ GE321.out)|exact HB.out)⟩

end Go.Proofs.Ytajikfnpcobnpaa.PFnExactRegeneratePiece
-- HALVED
-- SQUEEZED
-- SQUEEZED2
-- SQUEEZED3
-- SQUEEZED4
-- SQUEEZED5
-- SQUEEZED6
