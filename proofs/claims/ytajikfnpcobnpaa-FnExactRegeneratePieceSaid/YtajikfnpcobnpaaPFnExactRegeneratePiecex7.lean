-- Laid by a program of this session.
import Derived.Test.YtajikfnpcobnpaaPFnExactRegeneratePiecex0
import Derived.Test.YtajikfnpcobnpaaPFnExactRegeneratePiecex1
import Derived.Test.YtajikfnpcobnpaaPFnExactRegeneratePiecex5
import Derived.Test.YtajikfnpcobnpaaPFnExactRegeneratePiecex6
namespace Go.Proofs.Ytajikfnpcobnpaa.PFnExactRegeneratePiece
open Go.RowKit Go.Proofs.YtajikfnpcobnpaaW.PrintWords Go.Proofs.YtajikfnpcobnpaaW.PrintLast Go.Proofs.YtajikfnpcobnpaaW.PrintMore
attribute [local go_sem] max2_int min2_int max_two min_two max_three min_three max_four min_four   -- for this text's walks alone
set_option linter.unusedVariables false
set_option maxHeartbeats 8000000
set_option maxRecDepth 100000
set_option linter.unusedSimpArgs false

mutual
def spec_RegeneratePiece.j0:Nat→Int→List (S147)→Int→Bool→Int→Int→Option (Int × List Int × Bool)
 | 0,_,_,_,_,_,_=>none
 | k+1,x1,x2,x8,x36,x184000,x184001=>if x36=true then (some (0,([]:List Int),false)) else (spec_RegeneratePiece.l0 k x1 x2 x8 ([]:List Int) x2 (x2.length:Int) 0 x184000 x184001 ([]:List (List Int)))
def spec_RegeneratePiece.l0:Nat→Int→List (S147)→Int→List Int→List (S147)→Int→Int→Int→Int→List (List Int)→Option (Int × List Int × Bool)
 | 0,_,_,_,_,_,_,_,_,_,_=>none
 | k+1,x1,x2,x8,x10,x39,x40,x41,x184000,x184001,x188000=>if x41 < x40 then (if 0≤x41 then (if x41 < (x39.length:Int) then ((spec_l1In.f ((rd_T147 x39 x41).f0) 0 (wrap64 (x184000 - 1))).bind fun t190=>(if t190=true then (if ((rd_T147 x39 x41).f0)=x1 then (some (0,([]:List Int),false)) else (if x41 > 0 then (if 0≤(wrap64 (x41 - 1)) then (if (wrap64 (x41 - 1)) < (x2.length:Int) then (if ((rd_T147 x2 (wrap64 (x41 - 1))).f0) ≥ ((rd_T147 x39 x41).f0) then (some (0,([]:List Int),false)) else ((spec_l5Row.f k x184000 x184001 ((rd_T147 x39 x41).f0)).bind fun t192=>(if x188000.length < 5864062014805 then (if x10.length < 140737488355328 then (spec_RegeneratePiece.l0 k x1 x2 x8 (x10 ++ [(rd_T147 x39 x41).f1]) x39 x40 (wrap64 (x41+1)) x184000 x184001 (x188000 ++ [t192])) else (none)) else (none)))) else (none)) else (none)) else ((spec_l5Row.f k x184000 x184001 ((rd_T147 x39 x41).f0)).bind fun t201=>(if x188000.length < 5864062014805 then (if x10.length < 140737488355328 then (spec_RegeneratePiece.l0 k x1 x2 x8 (x10 ++ [(rd_T147 x39 x41).f1]) x39 x40 (wrap64 (x41+1)) x184000 x184001 (x188000 ++ [t201])) else (none)) else (none))))) else (some (0,([]:List Int),false)))) else (none)) else (none)) else ((spec_l2Inverse.f x188000).bind fun bt210=>(if bt210.2=true then ((spec_l2Apply.f k bt210.1 x10).bind fun t215=>(if 0≤x8 then (if x8≤(t215.length:Int) then ((spec_l5F.f k x184000 x184001 x1).bind fun t223=>((spec_l1Scale.f k t223 (t215.drop (x8:Int).toNat)).bind fun t229=>((spec_l1Add.f k (t215.take (x8:Int).toNat) t229).bind fun t232=>(some (x1,t232,true))))) else (none)) else (none))) else (some (0,([]:List Int),false))))
end
def spec_RegeneratePiece.f (k:Nat) (a0_0:Int) (a0_1:Int) (a1:Int) (l2:List (S147)):Option (Int × List Int × Bool):=(spec_GoodMsr.f a0_0 a0_1).bind fun t185=>(if t185=true then ((spec_l1In.f a1 0 (wrap64 (a0_0 - 1))).bind fun t186=>(if t186=true then (spec_RegeneratePiece.j0 k a1 l2 (wrap64 (a0_1 - 1)) ((l2.length:Int) != (wrap64 (2*(wrap64 (a0_1 - 1))))) a0_0 a0_1) else (spec_RegeneratePiece.j0 k a1 l2 (wrap64 (a0_1 - 1)) true a0_0 a0_1))) else (spec_RegeneratePiece.j0 k a1 l2 (wrap64 (a0_1 - 1)) true a0_0 a0_1))
theorem spec_RegeneratePiece.mono_l:∀ k,(∀ y0 y1 y2 y3 y4 y5,LeO (spec_RegeneratePiece.j0 k y0 y1 y2 y3 y4 y5) (spec_RegeneratePiece.j0 (k+1) y0 y1 y2 y3 y4 y5))∧(∀ y0 y1 y2 y3 y4 y5 y6 y7 y8 y9,LeO (spec_RegeneratePiece.l0 k y0 y1 y2 y3 y4 y5 y6 y7 y8 y9) (spec_RegeneratePiece.l0 (k+1) y0 y1 y2 y3 y4 y5 y6 y7 y8 y9))
 | 0=>⟨fun _ _ _ _ _ _ r h=>by simp [spec_RegeneratePiece.j0] at h,fun _ _ _ _ _ _ _ _ _ _ r h=>by simp [spec_RegeneratePiece.l0] at h⟩
 | k+1=>by
  obtain ⟨ih0,ih1⟩:=spec_RegeneratePiece.mono_l k
  refine ⟨?_,?_⟩
  ·intro y0 y1 y2 y3 y4 y5
   unfold spec_RegeneratePiece.j0
   repeat' first
   | (with_reducible exact ih0 _ _ _ _ _ _)
   | (with_reducible exact ih1 _ _ _ _ _ _ _ _ _ _)
   | (with_reducible exact spec_l1Add.mono _ _ _)
   | (with_reducible exact spec_l1Scale.mono _ _ _)
   | (with_reducible exact spec_l2Apply.mono _ _ _)
   | (with_reducible exact spec_l5F.mono _ _ _ _)
   | (with_reducible exact spec_l5Row.mono _ _ _ _)
   |(with_reducible exact LeO.refl _)|(with_reducible exact LeO.none _)|(with_reducible refine LeO.ite ?_ ?_)|(with_reducible refine LeO.bind ?_ (fun _=>?_))|exact ih0 _ _ _ _ _ _|exact ih1 _ _ _ _ _ _ _ _ _ _|exact spec_l1Add.mono _ _ _|exact spec_l1Scale.mono _ _ _|exact spec_l2Apply.mono _ _ _|exact spec_l5F.mono _ _ _ _|exact spec_l5Row.mono _ _ _ _|exact LeO.none _|refine LeO.ite ?_ ?_|refine LeO.bind ?_ (fun _=>?_)
  intro y0 y1 y2 y3 y4 y5 y6 y7 y8 y9
  unfold spec_RegeneratePiece.l0
  repeat' first
  | (with_reducible exact ih0 _ _ _ _ _ _)
  | (with_reducible exact ih1 _ _ _ _ _ _ _ _ _ _)
  | (with_reducible exact spec_l1Add.mono _ _ _)
  | (with_reducible exact spec_l1Scale.mono _ _ _)
  | (with_reducible exact spec_l2Apply.mono _ _ _)
  | (with_reducible exact spec_l5F.mono _ _ _ _)
  | (with_reducible exact spec_l5Row.mono _ _ _ _)
  |(with_reducible exact LeO.refl _)|(with_reducible exact LeO.none _)|(with_reducible refine LeO.ite ?_ ?_)|(with_reducible refine LeO.bind ?_ (fun _=>?_))|exact ih0 _ _ _ _ _ _|exact ih1 _ _ _ _ _ _ _ _ _ _|exact spec_l1Add.mono _ _ _|exact spec_l1Scale.mono _ _ _|exact spec_l2Apply.mono _ _ _|exact spec_l5F.mono _ _ _ _|exact spec_l5Row.mono _ _ _ _|exact LeO.none _|refine LeO.ite ?_ ?_|refine LeO.bind ?_ (fun _=>?_)
theorem spec_RegeneratePiece.mono:∀ a0 a1 a2 a3 k,LeO (spec_RegeneratePiece.f k a0 a1 a2 a3) (spec_RegeneratePiece.f (k+1) a0 a1 a2 a3):=by
 intro a0 a1 a2 a3 k
 obtain ⟨ih0,ih1⟩:=spec_RegeneratePiece.mono_l k
 unfold spec_RegeneratePiece.f
 repeat' first
   | (with_reducible exact ih0 _ _ _ _ _ _)
   | (with_reducible exact ih1 _ _ _ _ _ _ _ _ _ _)
   | (with_reducible exact spec_l1Add.mono _ _ _)
   | (with_reducible exact spec_l1Scale.mono _ _ _)
   | (with_reducible exact spec_l2Apply.mono _ _ _)
   | (with_reducible exact spec_l5F.mono _ _ _ _)
   | (with_reducible exact spec_l5Row.mono _ _ _ _)
   |(with_reducible exact LeO.refl _)|(with_reducible exact LeO.none _)|(with_reducible refine LeO.ite ?_ ?_)|(with_reducible refine LeO.bind ?_ (fun _=>?_))|exact ih0 _ _ _ _ _ _|exact ih1 _ _ _ _ _ _ _ _ _ _|exact spec_l1Add.mono _ _ _|exact spec_l1Scale.mono _ _ _|exact spec_l2Apply.mono _ _ _|exact spec_l5F.mono _ _ _ _|exact spec_l5Row.mono _ _ _ _|exact LeO.none _|refine LeO.ite ?_ ?_|refine LeO.bind ?_ (fun _=>?_)
def spec_RegeneratePiece.T9:Bool × List (List Nat × List Nat):=(true,[([],[]),([0],[0]),([],[]),([2],[2]),([3],[3]),([1,4],[1,4]),([5],[5]),([6,5],[6]),([7],[7]),([8,7],[7,8]),([7],[7]),([9,10,7],[7,9,10]),([7,11],[7,11]),([12,7],[12]),([13],[13]),([14,13],[13,14]),([15,13,13],[13,15]),([16],[16]),([16],[16]),([18,16],[16,18]),([17,19,16],[16,17,19]),([20,16],[16,20]),([21,16],[16,21]),([16],[16]),([23,16],[16,23]),([22,24,16],[16,22,24]),([16,25,13],[13,16,25]),([13,26],[13,26])])
def spec_RegeneratePiece.B9:List Nat:=[0,1,0,4,12,31,63,127,255,511,255,2047,4095,8191,16383,32767,65535,131071,131071,393215,1048575,2097151,4194303,131071,8519679,33554431,67108863,134217727]
theorem spec_RegeneratePiece.tab9:rtab .any (opsOf Try.f44 9)=spec_RegeneratePiece.T9:=by kernel_rfl
theorem spec_RegeneratePiece.bits9:waitsOk spec_RegeneratePiece.T9.2 spec_RegeneratePiece.B9=true:=by kernel_rfl
def spec_RegeneratePiece.T11:Bool × List (List Nat × List Nat):=(true,[([],[]),([0],[0]),([],[]),([],[]),([3],[3]),([2,4],[2,4]),([5],[5]),([1,6,5],[1,6]),([0,1,2,3,4,5,6,7],[]),([8,7,7,0,1,2,3,4,5,6,7],[7,8])])
def spec_RegeneratePiece.B11:List Nat:=[0,1,0,0,8,28,60,127,255,511]
theorem spec_RegeneratePiece.tab11:rtab .any (opsOf Try.f44 11)=spec_RegeneratePiece.T11:=by kernel_rfl
theorem spec_RegeneratePiece.bits11:waitsOk spec_RegeneratePiece.T11.2 spec_RegeneratePiece.B11=true:=by kernel_rfl
def spec_RegeneratePiece.T18:Bool × List (List Nat × List Nat):=(true,[([],[]),([],[]),([],[]),([1,2],[1,2]),([],[]),([],[]),([4,5],[4,5]),([],[]),([],[]),([7,8],[7,8]),([6,9,6],[6,9]),([3,10,10],[3,10]),([0,11],[0,11]),([12,11,0,1,2,3,4,5,6,7,8,9,10,11,12],[12]),([13,0,1,2,3,4,5,6,7,8,9,10,11,12,13],[])])
def spec_RegeneratePiece.B18:List Nat:=[0,0,0,6,0,0,48,0,0,384,1008,2046,4095,8191,16383]
theorem spec_RegeneratePiece.tab18:rtab .any (opsOf Try.f44 18)=spec_RegeneratePiece.T18:=by kernel_rfl
theorem spec_RegeneratePiece.bits18:waitsOk spec_RegeneratePiece.T18.2 spec_RegeneratePiece.B18=true:=by kernel_rfl
theorem spec_RegeneratePiece.calls (k:Nat) (a0_0:Int) (a0_1:Int) (a1:Int) (A2:Option Addr) (c2:Nat) (l2:List (S147)) (r1:Int) (r2:List Int) (r3:Bool) (w:World) (hr2:Kd.C k147 w A2 l2.length l2) (hc2:l2.length≤c2) (h:spec_RegeneratePiece.f k a0_0 a0_1 a1 l2=some (r1,r2,r3)) :
  Calls Try.prog 44 #[.agg #[.int .i64 a0_0, .int .i64 a0_1], .int .i64 a1, .slice A2 l2.length c2] w fun e w'=>∃ v1_:Value,e = .returned (.tuple #[.agg #[.int .i64 r1,v1_], .bool r3])∧Kd.R (Kd.int .u8) 5 w' w.heap.size (fun _=>True) v1_ r2∧Below w.heap.size w w':=by
 have hu72:=Try.underlying72
 have hu69:=Try.underlying69
 have hu43:=Try.underlying43
 have hu147:=Try.underlying147
 have HR2:=am hr2
 have HC2:=am hc2
 clear hr2 hc2
 have HB:=am (Below.refl w.heap.size w)
 have H:((spec_GoodMsr.f a0_0 a0_1).bind fun t185=>(if t185=true then ((spec_l1In.f a1 0 (wrap64 (a0_0 - 1))).bind fun t186=>(if t186=true then (spec_RegeneratePiece.j0 k a1 l2 (wrap64 (a0_1 - 1)) ((l2.length:Int) != (wrap64 (2*(wrap64 (a0_1 - 1))))) a0_0 a0_1) else (spec_RegeneratePiece.j0 k a1 l2 (wrap64 (a0_1 - 1)) true a0_0 a0_1))) else (spec_RegeneratePiece.j0 k a1 l2 (wrap64 (a0_1 - 1)) true a0_0 a0_1)))=some (r1,r2,r3):=h
 clear h
 have HC4:=am H
 clear H
 go_enter Try.func44,Try.ntmps44
 go_upto_region 2 with (first|((with_reducible refine gate_dst (N:=3) rfl ?_);(try (refine gate_guard d20 ?_;dsimp only));refine box_event ?hg (N:=3) ?hd (cs:=#[.int .i64 a0_0, .int .i64 a0_1]) (t:=72) ?hr ?_;(case hd=>rfl);(case hg=>rfl);(case hr=>first|(go_simp;done)|(go_simp;rfl));intro gb183 hg w5 hbox hb;have n0_:=am (pu d0 hb);have n1_:=am (hbox);have n2_:=am ((by rw [hg];exact (pz d0):w.heap.size≤gb183));have n3_:=n2_;clear HB;have HB:=n0_;have BK183:=n1_;have GW183:=n2_;have GE183:=n3_;clear n0_ n1_ n2_ n3_;clear hb hbox hg)|((with_reducible refine gate_dst (N:=6) rfl ?_);(try (refine gate_guard d20 ?_;dsimp only));refine box_event ?hg (N:=6) ?hd (cs:=#[.int .i64 0, .slice none 0 0]) (t:=69) ?hr ?_;(case hd=>rfl);(case hg=>rfl);(case hr=>first|(go_simp;done)|(go_simp;rfl));intro gb184 hg w6 hbox hb;have n0_:=am (qb (g:=gb183) (o:=.cells #[.int .i64 a0_0, .int .i64 a0_1] 72 (0,0)) (by (with_reducible repeat (first|refine qn ?_ _|refine qd ?_|refine qa ?_ _));exact BK183.out) hb);have n1_:=am (pu (by repeat (first|(with_reducible first|exact HB.out|apply pa|apply pb|apply pd|refine pt ?_ GE183.out)|exact HB.out)) hb);have n2_:=am (hbox);have n3_:=am ((by rw [hg];exact (pz (by repeat (first|(with_reducible first|exact HB.out|apply pa|apply pb|apply pd|refine pt ?_ GE183.out)|exact HB.out))):w.heap.size≤gb184));have n4_:=n3_;have n5_:=am ((by rw [hg];exact Nat.ne_of_lt (blk_lt (g:=gb183) (o:=.cells #[.int .i64 a0_0, .int .i64 a0_1] 72 (0,0)) (by (with_reducible repeat (first|refine qn ?_ _|refine qd ?_|refine qa ?_ _));exact BK183.out)):gb183 ≠ gb184));have n6_:=am ((by rw [hg];exact Nat.ne_of_gt (blk_lt (g:=gb183) (o:=.cells #[.int .i64 a0_0, .int .i64 a0_1] 72 (0,0)) (by (with_reducible repeat (first|refine qn ?_ _|refine qd ?_|refine qa ?_ _));exact BK183.out)):gb184 ≠ gb183));clear BK183;clear HB;have BK183:=n0_;have HB:=n1_;have BK184:=n2_;have GW184:=n3_;have GE184:=n4_;have NB183_184:=n5_;have NB184_183:=n6_;clear n0_ n1_ n2_ n3_ n4_ n5_ n6_;clear hb hbox hg;have hnb7:=NB183_184.out;have hnc7:=NB184_183.out;have hcz8_0:w6.cell? ⟨gb183,0,none⟩=some (.int .i64 a0_0):=(blk_cell BK183.out 0).trans rfl;have hcz8_1:w6.cell? ⟨gb183,1,none⟩=some (.int .i64 a0_1):=(blk_cell BK183.out 1).trans rfl;have hfz8_0:=blk_frozen BK183.out 0;have hfz8_1:=blk_frozen BK183.out 1))
 (try simp only [Act.put,q1,q2,q3])
 go_cut [36] (fun v36 wc=>∃ (kq:Nat) (x36_3:Bool),v36 = .bool x36_3∧Aside0 (spec_RegeneratePiece.j0 kq a1 l2 (wrap64 (a0_1 - 1)) x36_3 a0_0 a0_1=some (r1,r2,r3))∧Aside0 (kq≤k)∧Aside0 (wc.heap[gb183]? = some (.cells #[.int .i64 a0_0, .int .i64 a0_1] 72 (0,0)))∧Aside0 (wc.heap[gb184]? = some (.cells #[.int .i64 0,(.slice none 0 0)] 69 (0,0)))∧Aside0 (Below w.heap.size w wc))
 case first =>
  have H:=HC4.out
  clear HC4
  replace H:=Option.bind_eq_some_iff.mp H
  obtain ⟨t185,A90,H⟩:=H
  replace H:(if t185=true then ((spec_l1In.f a1 0 (wrap64 (a0_0 - 1))).bind fun t186=>(if t186=true then (spec_RegeneratePiece.j0 k a1 l2 (wrap64 (a0_1 - 1)) ((l2.length:Int) != (wrap64 (2*(wrap64 (a0_1 - 1))))) a0_0 a0_1) else (spec_RegeneratePiece.j0 k a1 l2 (wrap64 (a0_1 - 1)) true a0_0 a0_1))) else (spec_RegeneratePiece.j0 k a1 l2 (wrap64 (a0_1 - 1)) true a0_0 a0_1))=some (r1,r2,r3):=H
  have A9:=am A90
  clear A90
  by_cases c10:t185=true
  ·subst c10
   have H1:((spec_l1In.f a1 0 (wrap64 (a0_0 - 1))).bind fun t186=>(if t186=true then (spec_RegeneratePiece.j0 k a1 l2 (wrap64 (a0_1 - 1)) ((l2.length:Int) != (wrap64 (2*(wrap64 (a0_1 - 1))))) a0_0 a0_1) else (spec_RegeneratePiece.j0 k a1 l2 (wrap64 (a0_1 - 1)) true a0_0 a0_1)))=some (r1,r2,r3):=by rw [if_pos rfl] at H;exact H
   clear H
   have H:=H1
   clear H1
   replace H:=Option.bind_eq_some_iff.mp H
   obtain ⟨t186,A110,H⟩:=H
   replace H:(if t186=true then (spec_RegeneratePiece.j0 k a1 l2 (wrap64 (a0_1 - 1)) ((l2.length:Int) != (wrap64 (2*(wrap64 (a0_1 - 1))))) a0_0 a0_1) else (spec_RegeneratePiece.j0 k a1 l2 (wrap64 (a0_1 - 1)) true a0_0 a0_1))=some (r1,r2,r3):=H
   have A11:=am A110
   clear A110
   by_cases c12:t186=true
   ·subst c12
    have H1:(spec_RegeneratePiece.j0 k a1 l2 (wrap64 (a0_1 - 1)) ((l2.length:Int) != (wrap64 (2*(wrap64 (a0_1 - 1))))) a0_0 a0_1)=some (r1,r2,r3):=by rw [if_pos rfl] at H;exact H
    clear H
    have H:=H1
    clear H1
    have H':=am H
    clear H
    have hnb13:=NB183_184.out
    have hnc13:=NB184_183.out
    have hcz14_0:w6.cell? ⟨gb183,0,none⟩=some (.int .i64 a0_0):=(blk_cell BK183.out 0).trans rfl
    have hcz14_1:w6.cell? ⟨gb183,1,none⟩=some (.int .i64 a0_1):=(blk_cell BK183.out 1).trans rfl
    have hfz14_0:=blk_frozen BK183.out 0
    have hfz14_1:=blk_frozen BK183.out 1
    go_wp2_with (first|((with_reducible refine gate_callee (f:=120) rfl ?_);refine goesL_ (some 20) rfl rfl Try.func120 d3 rfl #[.agg #[.int .i64 a0_0, .int .i64 a0_1]] rfl d1 ?_;(with_reducible refine (spec_GoodMsr.calls a0_0 a0_1 true _ A9.out).mono ?_);rintro e w15 ⟨rfl,hb⟩;refine ⟨_,rfl,?_⟩;have n0_:=am (qb (g:=gb183) (o:=.cells #[.int .i64 a0_0, .int .i64 a0_1] 72 (0,0)) (by (with_reducible repeat (first|refine qn ?_ _|refine qd ?_|refine qa ?_ _));exact BK183.out) hb);have n1_:=am (qb (g:=gb184) (o:=.cells #[.int .i64 0, .slice none 0 0] 69 (0,0)) (by (with_reducible repeat (first|refine qn ?_ _|refine qd ?_|refine qa ?_ _));exact BK184.out) hb);have n2_:=am (pu (by repeat (first|(with_reducible first|exact HB.out|apply pa|apply pb|apply pd|refine pt ?_ GE183.out|refine pt ?_ GE184.out)|exact HB.out)) hb);clear BK183;clear BK184;clear HB;have BK183:=n0_;have BK184:=n1_;have HB:=n2_;clear n0_ n1_ n2_;(try clear hb);(try clear hb2);(try clear hk);(try clear hi);have hcz16_0:w15.cell? ⟨gb183,0,none⟩=some (.int .i64 a0_0):=(blk_cell BK183.out 0).trans rfl;have hcz16_1:w15.cell? ⟨gb183,1,none⟩=some (.int .i64 a0_1):=(blk_cell BK183.out 1).trans rfl;have hfz16_0:=blk_frozen BK183.out 0;have hfz16_1:=blk_frozen BK183.out 1)|(go_at_call 121;(with_reducible refine (spec_l1In.calls a1 0 (wrap64 (a0_0 - 1)) true _ A11.out).mono ?_);rintro e w' ⟨rfl,⟨nd,rfl⟩⟩))
    go_meet
    case rel=>exact ⟨_,(((l2.length:Int) != (wrap64 (2*(wrap64 (a0_1 - 1)))))),d4,H',⟨d63⟩,⟨by (with_reducible repeat (first|refine qn ?_ _|refine qd ?_|refine qa ?_ _));exact BK183.out⟩,⟨by (with_reducible repeat (first|refine qn ?_ _|refine qd ?_|refine qa ?_ _));exact BK184.out⟩,⟨by repeat (first|(with_reducible first|exact HB.out|apply pa|apply pb|apply pd|refine pt ?_ GE183.out|refine pt ?_ GE184.out)|exact HB.out)⟩⟩
   replace c12:=Bool.eq_false_iff.mpr c12
   subst c12
   have H1:(spec_RegeneratePiece.j0 k a1 l2 (wrap64 (a0_1 - 1)) true a0_0 a0_1)=some (r1,r2,r3):=by rw [if_neg (show ¬ (false=true) by decide)] at H;exact H
   clear H
   have H:=H1
   clear H1
   have H':=am H
   clear H
   have hnb17:=NB183_184.out
   have hnc17:=NB184_183.out
   have hcz18_0:w6.cell? ⟨gb183,0,none⟩=some (.int .i64 a0_0):=(blk_cell BK183.out 0).trans rfl
   have hcz18_1:w6.cell? ⟨gb183,1,none⟩=some (.int .i64 a0_1):=(blk_cell BK183.out 1).trans rfl
   have hfz18_0:=blk_frozen BK183.out 0
   have hfz18_1:=blk_frozen BK183.out 1
   go_wp2_with (first|((with_reducible refine gate_callee (f:=120) rfl ?_);refine goesL_ (some 20) rfl rfl Try.func120 d3 rfl #[.agg #[.int .i64 a0_0, .int .i64 a0_1]] rfl d1 ?_;(with_reducible refine (spec_GoodMsr.calls a0_0 a0_1 true _ A9.out).mono ?_);rintro e w19 ⟨rfl,hb⟩;refine ⟨_,rfl,?_⟩;have n0_:=am (qb (g:=gb183) (o:=.cells #[.int .i64 a0_0, .int .i64 a0_1] 72 (0,0)) (by (with_reducible repeat (first|refine qn ?_ _|refine qd ?_|refine qa ?_ _));exact BK183.out) hb);have n1_:=am (qb (g:=gb184) (o:=.cells #[.int .i64 0, .slice none 0 0] 69 (0,0)) (by (with_reducible repeat (first|refine qn ?_ _|refine qd ?_|refine qa ?_ _));exact BK184.out) hb);have n2_:=am (pu (by repeat (first|(with_reducible first|exact HB.out|apply pa|apply pb|apply pd|refine pt ?_ GE183.out|refine pt ?_ GE184.out)|exact HB.out)) hb);clear BK183;clear BK184;clear HB;have BK183:=n0_;have BK184:=n1_;have HB:=n2_;clear n0_ n1_ n2_;(try clear hb);(try clear hb2);(try clear hk);(try clear hi);have hcz20_0:w19.cell? ⟨gb183,0,none⟩=some (.int .i64 a0_0):=(blk_cell BK183.out 0).trans rfl;have hcz20_1:w19.cell? ⟨gb183,1,none⟩=some (.int .i64 a0_1):=(blk_cell BK183.out 1).trans rfl;have hfz20_0:=blk_frozen BK183.out 0;have hfz20_1:=blk_frozen BK183.out 1)|(go_at_call 121;(with_reducible refine (spec_l1In.calls a1 0 (wrap64 (a0_0 - 1)) false _ A11.out).mono ?_);rintro e w' ⟨rfl,⟨nd,rfl⟩⟩))
   go_meet
   case rel=>exact ⟨_,(true),d4,H',⟨d63⟩,⟨by (with_reducible repeat (first|refine qn ?_ _|refine qd ?_|refine qa ?_ _));exact BK183.out⟩,⟨by (with_reducible repeat (first|refine qn ?_ _|refine qd ?_|refine qa ?_ _));exact BK184.out⟩,⟨by repeat (first|(with_reducible first|exact HB.out|apply pa|apply pb|apply pd|refine pt ?_ GE183.out|refine pt ?_ GE184.out)|exact HB.out)⟩⟩
  replace c10:=Bool.eq_false_iff.mpr c10
  subst c10
  have H1:(spec_RegeneratePiece.j0 k a1 l2 (wrap64 (a0_1 - 1)) true a0_0 a0_1)=some (r1,r2,r3):=by rw [if_neg (show ¬ (false=true) by decide)] at H;exact H
  clear H
  have H:=H1
  clear H1
  have H':=am H
  clear H
  have hnb21:=NB183_184.out
  have hnc21:=NB184_183.out
  have hcz22_0:w6.cell? ⟨gb183,0,none⟩=some (.int .i64 a0_0):=(blk_cell BK183.out 0).trans rfl
  have hcz22_1:w6.cell? ⟨gb183,1,none⟩=some (.int .i64 a0_1):=(blk_cell BK183.out 1).trans rfl
  have hfz22_0:=blk_frozen BK183.out 0
  have hfz22_1:=blk_frozen BK183.out 1
  go_wp2_with (first|((with_reducible refine gate_callee (f:=120) rfl ?_);refine goesL_ (some 20) rfl rfl Try.func120 d3 rfl #[.agg #[.int .i64 a0_0, .int .i64 a0_1]] rfl d1 ?_;(with_reducible refine (spec_GoodMsr.calls a0_0 a0_1 false _ A9.out).mono ?_);rintro e w23 ⟨rfl,hb⟩;refine ⟨_,rfl,?_⟩;have n0_:=am (qb (g:=gb183) (o:=.cells #[.int .i64 a0_0, .int .i64 a0_1] 72 (0,0)) (by (with_reducible repeat (first|refine qn ?_ _|refine qd ?_|refine qa ?_ _));exact BK183.out) hb);have n1_:=am (qb (g:=gb184) (o:=.cells #[.int .i64 0, .slice none 0 0] 69 (0,0)) (by (with_reducible repeat (first|refine qn ?_ _|refine qd ?_|refine qa ?_ _));exact BK184.out) hb);have n2_:=am (pu (by repeat (first|(with_reducible first|exact HB.out|apply pa|apply pb|apply pd|refine pt ?_ GE183.out|refine pt ?_ GE184.out)|exact HB.out)) hb);clear BK183;clear BK184;clear HB;have BK183:=n0_;have BK184:=n1_;have HB:=n2_;clear n0_ n1_ n2_;(try clear hb);(try clear hb2);(try clear hk);(try clear hi)))
  go_meet
  case rel=>exact ⟨_,(true),d4,H',⟨d63⟩,⟨by (with_reducible repeat (first|refine qn ?_ _|refine qd ?_|refine qa ?_ _));exact BK183.out⟩,⟨by (with_reducible repeat (first|refine qn ?_ _|refine qd ?_|refine qa ?_ _));exact BK184.out⟩,⟨by repeat (first|(with_reducible first|exact HB.out|apply pa|apply pb|apply pd|refine pt ?_ GE183.out|refine pt ?_ GE184.out)|exact HB.out)⟩⟩
 case rest =>
  clear HC4
  try clear c1
  try clear c2
  try clear p2
  try clear c4
  try clear p6
  try clear c7
  try clear c10
  try clear c12
  try clear c13
  try clear c17
  try clear c21
  try clear hcz14_0
  try clear hcz14_1
  try clear hcz16_0
  try clear hcz16_1
  try clear hcz18_0
  try clear hcz18_1
  try clear hcz20_0
  try clear hcz20_1
  try clear hcz22_0
  try clear hcz22_1
  try clear hcz8_0
  try clear hcz8_1
  try clear hfz14_0
  try clear hfz14_1
  try clear hfz16_0
  try clear hfz16_1
  try clear hfz18_0
  try clear hfz18_1
  try clear hfz20_0
  try clear hfz20_1
  try clear hfz22_0
  try clear hfz22_1
  try clear hfz8_0
  try clear hfz8_1
  obtain ⟨kq,x36_3,rfl,HA,HJ3,BK183,BK184,HB⟩:=hcut
  cases kq with
  | zero=>exact absurd HA.out (by simp [spec_RegeneratePiece.j0])
  | succ kj3 =>
   have H:=HA.out
   clear HA
   simp only [spec_RegeneratePiece.j0] at H
   by_cases c24:x36_3=true
   ·subst c24
    have H1:(some (0,([]:List Int),false))=some (r1,r2,r3):=by rw [if_pos rfl] at H;exact H
    clear H
    have H:=H1
    clear H1
    simp only [Option.some.injEq,Prod.mk.injEq] at H
    obtain ⟨rfl,rfl,rfl⟩:=H
    have hnb25:=NB184_183.out
    have hnc25:=NB183_184.out
    have hcz26_0:wc.cell? ⟨gb184,0,none⟩=some (.int .i64 0):=(blk_cell BK184.out 0).trans rfl
    have hcz26_1:wc.cell? ⟨gb184,1,none⟩=some (.slice none 0 0):=(blk_cell BK184.out 1).trans rfl
    have hfz26_0:=blk_frozen BK184.out 0
    have hfz26_1:=blk_frozen BK184.out 1
    go_wp2
    refine bodyPost_ret (results_ct rfl _ _ gb184 69 #[.int .i64 0, .slice none 0 0] (0,0) _ rfl (by (with_reducible repeat (first|refine qn ?_ _|refine qd ?_|refine qa ?_ _));refine blk_put (cs:=#[.int .i64 0, .slice none 0 0]) ?_ 1 _ rfl;(with_reducible repeat (first|refine qn ?_ _|refine qd ?_|refine qa ?_ _));refine blk_put (cs:=#[.int .i64 0, .slice none 0 0]) ?_ 0 _ rfl;(with_reducible repeat (first|refine qn ?_ _|refine qd ?_|refine qa ?_ _));exact BK184.out) Try.underlying69 rfl d3) rfl ?_
    exact ⟨_,d5,d14,by repeat (first|(with_reducible first|exact HB.out|apply pa|apply pb|apply pd|refine pt ?_ GE183.out|refine pt ?_ GE184.out)|exact HB.out)⟩
   replace c24:=Bool.eq_false_iff.mpr c24
   subst c24
   have H1:(spec_RegeneratePiece.l0 kj3 a1 l2 (wrap64 (a0_1 - 1)) ([]:List Int) l2 (l2.length:Int) 0 a0_0 a0_1 ([]:List (List Int)))=some (r1,r2,r3):=by rw [if_neg (show ¬ (false=true) by decide)] at H;exact H
   clear H
   have H:=H1
   clear H1
   have H':=am H
   clear H
   go_wp2_with (first|((with_reducible refine gate_dst (N:=9) rfl ?_);(try (refine gate_guard d20 ?_;dsimp only));refine box_event ?hg (N:=9) ?hd (cs:=#[.slice none 0 0]) (t:=43) ?hr ?_;(case hd=>rfl);(case hg=>rfl);(case hr=>first|(go_simp;done)|(go_simp;rfl));intro gb187 hg w27 hbox hb;have n0_:=am (qb (g:=gb183) (o:=.cells #[.int .i64 a0_0, .int .i64 a0_1] 72 (0,0)) (by (with_reducible repeat (first|refine qn ?_ _|refine qd ?_|refine qa ?_ _));exact BK183.out) hb);have n1_:=am (qb (g:=gb184) (o:=.cells #[.int .i64 0, .slice none 0 0] 69 (0,0)) (by (with_reducible repeat (first|refine qn ?_ _|refine qd ?_|refine qa ?_ _));exact BK184.out) hb);have n2_:=am (pu (by repeat (first|(with_reducible first|exact HB.out|apply pa|apply pb|apply pd|refine pt ?_ GE183.out|refine pt ?_ GE184.out)|exact HB.out)) hb);have n3_:=am (hbox);have n4_:=am ((by rw [hg];exact (pz (by repeat (first|(with_reducible first|exact HB.out|apply pa|apply pb|apply pd|refine pt ?_ GE183.out|refine pt ?_ GE184.out)|exact HB.out))):w.heap.size≤gb187));have n5_:=n4_;have n6_:=am ((by rw [hg];exact Nat.ne_of_lt (blk_lt (g:=gb183) (o:=.cells #[.int .i64 a0_0, .int .i64 a0_1] 72 (0,0)) (by (with_reducible repeat (first|refine qn ?_ _|refine qd ?_|refine qa ?_ _));exact BK183.out)):gb183 ≠ gb187));have n7_:=am ((by rw [hg];exact Nat.ne_of_gt (blk_lt (g:=gb183) (o:=.cells #[.int .i64 a0_0, .int .i64 a0_1] 72 (0,0)) (by (with_reducible repeat (first|refine qn ?_ _|refine qd ?_|refine qa ?_ _));exact BK183.out)):gb187 ≠ gb183));have n8_:=am ((by rw [hg];exact Nat.ne_of_lt (blk_lt (g:=gb184) (o:=.cells #[.int .i64 0, .slice none 0 0] 69 (0,0)) (by (with_reducible repeat (first|refine qn ?_ _|refine qd ?_|refine qa ?_ _));exact BK184.out)):gb184 ≠ gb187));have n9_:=am ((by rw [hg];exact Nat.ne_of_gt (blk_lt (g:=gb184) (o:=.cells #[.int .i64 0, .slice none 0 0] 69 (0,0)) (by (with_reducible repeat (first|refine qn ?_ _|refine qd ?_|refine qa ?_ _));exact BK184.out)):gb187 ≠ gb184));clear BK183;clear BK184;clear HB;have BK183:=n0_;have BK184:=n1_;have HB:=n2_;have BK187:=n3_;have GW187:=n4_;have GE187:=n5_;have NB183_187:=n6_;have NB187_183:=n7_;have NB184_187:=n8_;have NB187_184:=n9_;clear n0_ n1_ n2_ n3_ n4_ n5_ n6_ n7_ n8_ n9_;clear hb hbox hg;have hnb28:=NB187_183.out;have hnc28:=NB183_187.out;have hnb29:=NB187_184.out;have hnc29:=NB184_187.out;have hcz30_0:w27.cell? ⟨gb187,0,none⟩=some (.slice none 0 0):=(blk_cell BK187.out 0).trans rfl;have hfz30_0:=blk_frozen BK187.out 0))
   go_loopg [10,41] kj3 (fun kq v10 v41 w'=>∃ (x10_2:List Int) (x41_2:Int) (x185000_2:Int) (x188000_2:List (List Int)) (u188000:Value),v41 = .int .i64 x41_2∧Aside0 (spec_RegeneratePiece.l0 kq a1 l2 (wrap64 (a0_1 - 1)) x10_2 l2 (l2.length:Int) x41_2 a0_0 a0_1 x188000_2=some (r1,r2,r3))∧Aside0 (kq≤kj3)∧Aside0 (Kd.R (Kd.int .u8) 5 w' w.heap.size (fun _=>True) v10 x10_2)∧Aside0 (Kd.N (Kd.slice 5 (Kd.int .u8)) 57 w' w.heap.size (fun k_=>some k_ ≠ (v10:Value).ownBlock∧k_ ≠ gb183∧k_ ≠ gb184∧k_ ≠ gb187) u188000 x188000_2)∧Aside0 (w'.heap[gb183]? = some (.cells #[.int .i64 a0_0, .int .i64 a0_1] 72 (0,0)))∧Aside0 (w'.heap[gb184]? = some (.cells #[.int .i64 x185000_2,(.slice none 0 0)] 69 (0,0)))∧Aside0 (w'.heap[gb187]? = some (.cells #[u188000] 43 (0,0)))∧Aside0 (Below w.heap.size w w'))
   case atStart=>exact ⟨(([]:List Int)),(0),(0),(([]:List (List Int))),(.slice none 0 0),d4,H',⟨Nat.le_refl _⟩,⟨d14⟩,⟨d55⟩,⟨by (with_reducible repeat (first|refine qn ?_ _|refine qd ?_|refine qa ?_ _));refine blk_far ?_ NB183_187.out _;(with_reducible repeat (first|refine qn ?_ _|refine qd ?_|refine qa ?_ _));exact BK183.out⟩,⟨by (with_reducible repeat (first|refine qn ?_ _|refine qd ?_|refine qa ?_ _));refine blk_far ?_ NB184_187.out _;(with_reducible repeat (first|refine qn ?_ _|refine qd ?_|refine qa ?_ _));exact BK184.out⟩,⟨by (with_reducible repeat (first|refine qn ?_ _|refine qd ?_|refine qa ?_ _));refine blk_put (cs:=#[.slice none 0 0]) ?_ 0 _ rfl;(with_reducible repeat (first|refine qn ?_ _|refine qd ?_|refine qa ?_ _));exact BK187.out⟩,⟨by repeat (first|(with_reducible first|exact HB.out|apply pa|apply pb|apply pd|refine pt ?_ GE183.out|refine pt ?_ GE184.out|refine pt ?_ GE187.out)|exact HB.out)⟩⟩
   case round =>
    clear H'
    try clear c1
    try clear c2
    try clear p2
    try clear c4
    try clear p6
    try clear c7
    try clear c10
    try clear c12
    try clear c13
    try clear c17
    try clear c21
    try clear c24
    try clear c25
    try clear c28
    try clear c29
    try clear hcz14_0
    try clear hcz14_1
    try clear hcz16_0
    try clear hcz16_1
    try clear hcz18_0
    try clear hcz18_1
    try clear hcz20_0
    try clear hcz20_1
    try clear hcz22_0
    try clear hcz22_1
    try clear hcz26_0
    try clear hcz26_1
    try clear hcz30_0
    try clear hcz8_0
    try clear hcz8_1
    try clear hfz14_0
    try clear hfz14_1
    try clear hfz16_0
    try clear hfz16_1
    try clear hfz18_0
    try clear hfz18_1
    try clear hfz20_0
    try clear hfz20_1
    try clear hfz22_0
    try clear hfz22_1
    try clear hfz26_0
    try clear hfz26_1
    try clear hfz30_0
    try clear hfz8_0
    try clear hfz8_1
    try clear p2
    try clear p6
    obtain ⟨x10_2,x41_2,x185000_2,x188000_2,u188000,rfl,HA,HK2,HO_10,HO_188000,BK183,BK184,BK187,HB⟩:=hrel
    cases gk with
    | zero=>exact absurd HA.out (by simp [spec_RegeneratePiece.l0])
    | succ k2 =>
     have H:=HA.out
     clear HA
     simp only [spec_RegeneratePiece.l0] at H
     by_cases c31:x41_2 < (l2.length:Int)
     ·rw [if_pos c31] at H
      have c31b0:decide (x41_2 < (l2.length:Int))=true:=decide_eq_true c31
      clear c31
      by_cases c32:0≤x41_2
      ·rw [if_pos c32] at H
       have c32b0:decide (0≤x41_2)=true:=decide_eq_true c32
       clear c32
       by_cases c33:x41_2 < (l2.length:Int)
       ·rw [if_pos c33] at H
        have c33b0:decide (x41_2 < (l2.length:Int))=true:=decide_eq_true c33
        clear c33
        replace H:=Option.bind_eq_some_iff.mp H
        obtain ⟨t190,A340,H⟩:=H
        replace H:(if t190=true then (if ((rd_T147 l2 x41_2).f0)=a1 then (some (0,([]:List Int),false)) else (if x41_2 > 0 then (if 0≤(wrap64 (x41_2 - 1)) then (if (wrap64 (x41_2 - 1)) < (l2.length:Int) then (if ((rd_T147 l2 (wrap64 (x41_2 - 1))).f0) ≥ ((rd_T147 l2 x41_2).f0) then (some (0,([]:List Int),false)) else ((spec_l5Row.f k2 a0_0 a0_1 ((rd_T147 l2 x41_2).f0)).bind fun t192=>(if x188000_2.length < 5864062014805 then (if x10_2.length < 140737488355328 then (spec_RegeneratePiece.l0 k2 a1 l2 (wrap64 (a0_1 - 1)) (x10_2 ++ [(rd_T147 l2 x41_2).f1]) l2 (l2.length:Int) (wrap64 (x41_2+1)) a0_0 a0_1 (x188000_2 ++ [t192])) else (none)) else (none)))) else (none)) else (none)) else ((spec_l5Row.f k2 a0_0 a0_1 ((rd_T147 l2 x41_2).f0)).bind fun t201=>(if x188000_2.length < 5864062014805 then (if x10_2.length < 140737488355328 then (spec_RegeneratePiece.l0 k2 a1 l2 (wrap64 (a0_1 - 1)) (x10_2 ++ [(rd_T147 l2 x41_2).f1]) l2 (l2.length:Int) (wrap64 (x41_2+1)) a0_0 a0_1 (x188000_2 ++ [t201])) else (none)) else (none))))) else (some (0,([]:List Int),false)))=some (r1,r2,r3):=H
        have A34:=am A340
        clear A340
        by_cases c35:t190=true
        ·subst c35
         have H1:(if ((rd_T147 l2 x41_2).f0)=a1 then (some (0,([]:List Int),false)) else (if x41_2 > 0 then (if 0≤(wrap64 (x41_2 - 1)) then (if (wrap64 (x41_2 - 1)) < (l2.length:Int) then (if ((rd_T147 l2 (wrap64 (x41_2 - 1))).f0) ≥ ((rd_T147 l2 x41_2).f0) then (some (0,([]:List Int),false)) else ((spec_l5Row.f k2 a0_0 a0_1 ((rd_T147 l2 x41_2).f0)).bind fun t192=>(if x188000_2.length < 5864062014805 then (if x10_2.length < 140737488355328 then (spec_RegeneratePiece.l0 k2 a1 l2 (wrap64 (a0_1 - 1)) (x10_2 ++ [(rd_T147 l2 x41_2).f1]) l2 (l2.length:Int) (wrap64 (x41_2+1)) a0_0 a0_1 (x188000_2 ++ [t192])) else (none)) else (none)))) else (none)) else (none)) else ((spec_l5Row.f k2 a0_0 a0_1 ((rd_T147 l2 x41_2).f0)).bind fun t201=>(if x188000_2.length < 5864062014805 then (if x10_2.length < 140737488355328 then (spec_RegeneratePiece.l0 k2 a1 l2 (wrap64 (a0_1 - 1)) (x10_2 ++ [(rd_T147 l2 x41_2).f1]) l2 (l2.length:Int) (wrap64 (x41_2+1)) a0_0 a0_1 (x188000_2 ++ [t201])) else (none)) else (none)))))=some (r1,r2,r3):=by rw [if_pos rfl] at H;exact H
         clear H
         have H:=H1
         clear H1
         by_cases c36:((rd_T147 l2 x41_2).f0)=a1
         ·rw [if_pos c36] at H
          have c36b0:(((rd_T147 l2 x41_2).f0) == a1)=true:=beq_iff_eq.mpr c36
          have c36b1:(((rd_T147 l2 x41_2).f0) != a1)=false:=bne_eq_false_iff_eq.mpr c36
          clear c36
          simp only [Option.some.injEq,Prod.mk.injEq] at H
          obtain ⟨rfl,rfl,rfl⟩:=H
          have p188:0≤(x41_2:Int):=od d2
          have q188:x41_2 < (l2.length:Int):=od d2
          obtain ⟨ad188,e188,hx188_0,hx188_1⟩:=at_T147 HR2.out x41_2 p188 q188
          cases e188
          replace hx188_0:=(HB.out.cell (World.block_lt_of_cell? w _ hx188_0)).trans hx188_0
          replace hx188_1:=(HB.out.cell (World.block_lt_of_cell? w _ hx188_1)).trans hx188_1
          replace p188:=eq_true p188
          replace q188:=eq_true q188
          try go_wp2_with (first|((with_reducible refine gate_dst (N:=12) rfl ?_);(try (refine gate_guard d20 ?_;dsimp only));refine box_event ?hg (N:=12) ?hd (cs:=#[.int .i64 0, .int .u8 0]) (t:=147) ?hr ?_;(case hd=>rfl);(case hg=>rfl);(case hr=>first|(go_simp;done)|(go_simp;rfl));intro gb189 hg w37 hbox hb;have n0_:=am (Kd.R_below d6 hb);have n1_:=am (Kd.N_below (Kd.N_elderB d13 gb189 (Nat.le_of_eq hg.symm)) hb);have n2_:=am (qb (g:=gb183) (o:=.cells #[.int .i64 a0_0, .int .i64 a0_1] 72 (0,0)) (by (with_reducible repeat (first|refine qn ?_ _|refine qd ?_|refine qa ?_ _));exact BK183.out) hb);have n3_:=am (qb (g:=gb184) (o:=.cells #[.int .i64 x185000_2, .slice none 0 0] 69 (0,0)) (by (with_reducible repeat (first|refine qn ?_ _|refine qd ?_|refine qa ?_ _));exact BK184.out) hb);have n4_:=am (qb (g:=gb187) (o:=.cells #[u188000] 43 (0,0)) (by (with_reducible repeat (first|refine qn ?_ _|refine qd ?_|refine qa ?_ _));exact BK187.out) hb);have n5_:=am (pu (by repeat (first|(with_reducible first|exact HB.out|apply pa|apply pb|apply pd|refine pt ?_ GE183.out|refine pt ?_ GE184.out|refine pt ?_ GE187.out)|exact HB.out)) hb);have n6_:=am (hbox);have n7_:=am ((by rw [hg];exact (pz (by repeat (first|(with_reducible first|exact HB.out|apply pa|apply pb|apply pd|refine pt ?_ GE183.out|refine pt ?_ GE184.out|refine pt ?_ GE187.out)|exact HB.out))):w.heap.size≤gb189));have n8_:=n7_;have n9_:=am ((by rw [hg];exact Nat.ne_of_lt (blk_lt (g:=gb183) (o:=.cells #[.int .i64 a0_0, .int .i64 a0_1] 72 (0,0)) (by (with_reducible repeat (first|refine qn ?_ _|refine qd ?_|refine qa ?_ _));exact BK183.out)):gb183 ≠ gb189));have n10_:=am ((by rw [hg];exact Nat.ne_of_gt (blk_lt (g:=gb183) (o:=.cells #[.int .i64 a0_0, .int .i64 a0_1] 72 (0,0)) (by (with_reducible repeat (first|refine qn ?_ _|refine qd ?_|refine qa ?_ _));exact BK183.out)):gb189 ≠ gb183));have n11_:=am ((by rw [hg];exact Nat.ne_of_lt (blk_lt (g:=gb184) (o:=.cells #[.int .i64 x185000_2, .slice none 0 0] 69 (0,0)) (by (with_reducible repeat (first|refine qn ?_ _|refine qd ?_|refine qa ?_ _));exact BK184.out)):gb184 ≠ gb189));have n12_:=am ((by rw [hg];exact Nat.ne_of_gt (blk_lt (g:=gb184) (o:=.cells #[.int .i64 x185000_2, .slice none 0 0] 69 (0,0)) (by (with_reducible repeat (first|refine qn ?_ _|refine qd ?_|refine qa ?_ _));exact BK184.out)):gb189 ≠ gb184));have n13_:=am ((by rw [hg];exact Nat.ne_of_lt (blk_lt (g:=gb187) (o:=.cells #[u188000] 43 (0,0)) (by (with_reducible repeat (first|refine qn ?_ _|refine qd ?_|refine qa ?_ _));exact BK187.out)):gb187 ≠ gb189));have n14_:=am ((by rw [hg];exact Nat.ne_of_gt (blk_lt (g:=gb187) (o:=.cells #[u188000] 43 (0,0)) (by (with_reducible repeat (first|refine qn ?_ _|refine qd ?_|refine qa ?_ _));exact BK187.out)):gb189 ≠ gb187));clear HO_10;clear HO_188000;clear BK183;clear BK184;clear BK187;clear HB;have HO_10:=n0_;have HO_188000:=n1_;have BK183:=n2_;have BK184:=n3_;have BK187:=n4_;have HB:=n5_;have BK189:=n6_;have GW189:=n7_;have GE189:=n8_;have NB183_189:=n9_;have NB189_183:=n10_;have NB184_189:=n11_;have NB189_184:=n12_;have NB187_189:=n13_;have NB189_187:=n14_;clear n0_ n1_ n2_ n3_ n4_ n5_ n6_ n7_ n8_ n9_ n10_ n11_ n12_ n13_ n14_;clear hb hbox hg;have hnb38:=NB189_183.out;have hnc38:=NB183_189.out;have hnb39:=NB189_184.out;have hnc39:=NB184_189.out;have hnb40:=NB189_187.out;have hnc40:=NB187_189.out;have hcz41_0:w37.cell? ⟨gb189,0,none⟩=some (.int .i64 0):=(blk_cell BK189.out 0).trans rfl;have hcz41_1:w37.cell? ⟨gb189,1,none⟩=some (.int .u8 0):=(blk_cell BK189.out 1).trans rfl;have hfz41_0:=blk_frozen BK189.out 0;have hfz41_1:=blk_frozen BK189.out 1))
          have n0_:Aside0 (Kd.R (Kd.int .u8) 5 ((w37.setCell ⟨gb189,0,none⟩ (.int .i64 ((rd_T147 l2 x41_2).f0))).setCell ⟨gb189,1,none⟩ (.int .u8 ((rd_T147 l2 x41_2).f1))) w.heap.size (fun _=>True) u10 x10_2):=⟨d17⟩
          have n1_:Aside0 (Kd.N (Kd.slice 5 (Kd.int .u8)) 57 ((w37.setCell ⟨gb189,0,none⟩ (.int .i64 ((rd_T147 l2 x41_2).f0))).setCell ⟨gb189,1,none⟩ (.int .u8 ((rd_T147 l2 x41_2).f1))) w.heap.size (fun k_=>some k_ ≠ (u10:Value).ownBlock∧k_ ≠ gb183∧k_ ≠ gb184∧k_ ≠ gb187∧k_ ≠ gb189) u188000 x188000_2):=⟨d16⟩
          have n2_:Aside0 (((w37.setCell ⟨gb189,0,none⟩ (.int .i64 ((rd_T147 l2 x41_2).f0))).setCell ⟨gb189,1,none⟩ (.int .u8 ((rd_T147 l2 x41_2).f1))).heap[gb183]? = some (.cells #[.int .i64 a0_0, .int .i64 a0_1] 72 (0,0))):=⟨by (with_reducible repeat (first|refine qn ?_ _|refine qd ?_|refine qa ?_ _));refine blk_far ?_ NB183_189.out _;(with_reducible repeat (first|refine qn ?_ _|refine qd ?_|refine qa ?_ _));refine blk_far ?_ NB183_189.out _;(with_reducible repeat (first|refine qn ?_ _|refine qd ?_|refine qa ?_ _));exact BK183.out⟩
          have n3_:Aside0 (((w37.setCell ⟨gb189,0,none⟩ (.int .i64 ((rd_T147 l2 x41_2).f0))).setCell ⟨gb189,1,none⟩ (.int .u8 ((rd_T147 l2 x41_2).f1))).heap[gb184]? = some (.cells #[.int .i64 x185000_2, .slice none 0 0] 69 (0,0))):=⟨by (with_reducible repeat (first|refine qn ?_ _|refine qd ?_|refine qa ?_ _));refine blk_far ?_ NB184_189.out _;(with_reducible repeat (first|refine qn ?_ _|refine qd ?_|refine qa ?_ _));refine blk_far ?_ NB184_189.out _;(with_reducible repeat (first|refine qn ?_ _|refine qd ?_|refine qa ?_ _));exact BK184.out⟩
          have n4_:Aside0 (((w37.setCell ⟨gb189,0,none⟩ (.int .i64 ((rd_T147 l2 x41_2).f0))).setCell ⟨gb189,1,none⟩ (.int .u8 ((rd_T147 l2 x41_2).f1))).heap[gb187]? = some (.cells #[u188000] 43 (0,0))):=⟨by (with_reducible repeat (first|refine qn ?_ _|refine qd ?_|refine qa ?_ _));refine blk_far ?_ NB187_189.out _;(with_reducible repeat (first|refine qn ?_ _|refine qd ?_|refine qa ?_ _));refine blk_far ?_ NB187_189.out _;(with_reducible repeat (first|refine qn ?_ _|refine qd ?_|refine qa ?_ _));exact BK187.out⟩
          have n5_:Aside0 (((w37.setCell ⟨gb189,0,none⟩ (.int .i64 ((rd_T147 l2 x41_2).f0))).setCell ⟨gb189,1,none⟩ (.int .u8 ((rd_T147 l2 x41_2).f1))).heap[gb189]? = some (.cells #[.int .i64 ((rd_T147 l2 x41_2).f0), .int .u8 ((rd_T147 l2 x41_2).f1)] 147 (0,0))):=⟨by (with_reducible repeat (first|refine qn ?_ _|refine qd ?_|refine qa ?_ _));refine blk_put (cs:=#[.int .i64 ((rd_T147 l2 x41_2).f0), .int .u8 0]) ?_ 1 _ rfl;(with_reducible repeat (first|refine qn ?_ _|refine qd ?_|refine qa ?_ _));refine blk_put (cs:=#[.int .i64 0, .int .u8 0]) ?_ 0 _ rfl;(with_reducible repeat (first|refine qn ?_ _|refine qd ?_|refine qa ?_ _));exact BK189.out⟩
          have n6_:Aside0 (Below w.heap.size w ((w37.setCell ⟨gb189,0,none⟩ (.int .i64 ((rd_T147 l2 x41_2).f0))).setCell ⟨gb189,1,none⟩ (.int .u8 ((rd_T147 l2 x41_2).f1)))):=⟨by repeat (first|(with_reducible first|exact HB.out|apply pa|apply pb|apply pd|refine pt ?_ GE183.out|refine pt ?_ GE184.out|refine pt ?_ GE187.out|refine pt ?_ GE189.out)|exact HB.out)⟩
          (try clear HO_10)
          (try clear HO_188000)
          (try clear BK183)
          (try clear BK184)
          (try clear BK187)
          (try clear BK189)
          (try clear HB)
          generalize ((w37.setCell ⟨gb189,0,none⟩ (.int .i64 ((rd_T147 l2 x41_2).f0))).setCell ⟨gb189,1,none⟩ (.int .u8 ((rd_T147 l2 x41_2).f1)))=w42 at n0_ n1_ n2_ n3_ n4_ n5_ n6_ ⊢
          have HO_10:=n0_
          have HO_188000:=n1_
          have BK183:=n2_
          have BK184:=n3_
          have BK187:=n4_
          have BK189:=n5_
          have HB:=n6_
          clear n0_ n1_ n2_ n3_ n4_ n5_ n6_
          have n0_:=am (Kd.R_drew HO_10.out)
          have n1_:=am (Kd.N_drew HO_188000.out)
          have n2_:=am (qd BK183.out)
          have n3_:=am (qd BK184.out)
          have n4_:=am (qd BK187.out)
          have n5_:=am (qd BK189.out)
          have n6_:=am (pd HB.out)
          clear HO_10
          clear HO_188000
          clear BK183
          clear BK184
          clear BK187
          clear BK189
          clear HB
          have HO_10:=n0_
          have HO_188000:=n1_
          have BK183:=n2_
          have BK184:=n3_
          have BK187:=n4_
          have BK189:=n5_
          have HB:=n6_
          clear n0_ n1_ n2_ n3_ n4_ n5_ n6_
          refine rS (n:=28) (S:=fun w'=>w'.cell? ⟨gb189,0,none⟩=some (.int .i64 ((rd_T147 l2 x41_2).f0))∧w'.cell? ⟨gb189,1,none⟩=some (.int .u8 ((rd_T147 l2 x41_2).f1))∧w'.cell? ⟨gb183,0,none⟩=some (.int .i64 a0_0)∧w'.cell? ⟨gb183,1,none⟩=some (.int .i64 a0_1)) (ds:=[]) [(0,46),(2,48),(1,47),(3,49),(4,50),(5,0),(6,52),(7,53),(8,54),(10,56),(9,55),(11,57),(12,58),(13,59),(14,60),(15,61),(16,62),(17,63),(18,64),(19,65),(20,66),(21,67),(22,68),(23,69),(24,70),(25,71),(26,72),(27,73)] d3 rfl spec_RegeneratePiece.tab9 spec_RegeneratePiece.bits9 ⟨(blk_cell BK189.out 0).trans rfl,(blk_cell BK189.out 1).trans rfl,(blk_cell BK183.out 0).trans rfl,(blk_cell BK183.out 1).trans rfl⟩ (fun hHeld HT_ HW_=>?_)
          generalize w42.drew=w43 at HO_10 HO_188000 BK183 BK184 BK187 BK189 HB hHeld ⊢
          refine rR ?_
          refine rO (N:=some 51) HT_ rfl rfl d3 d8 (fun K hK=>?_)
          refine goes_ Try.func121 d3 rfl #[.int .i64 ((rd_T147 l2 x41_2).f0), .int .i64 0, .int .i64 (wrap64 (a0_0 - 1))] d20 rfl rfl d1 ?_
          with_reducible refine (spec_l1In.calls ((rd_T147 l2 x41_2).f0) 0 (wrap64 (a0_0 - 1)) true _ A34.out).mono ?_
          rintro e w' ⟨rfl,⟨nd,rfl⟩⟩
          refine ⟨_,rfl,?_⟩
          refine hK.out _ _ ⟨(blk_cell BK189.out 0).trans rfl,(blk_cell BK189.out 1).trans rfl,(blk_cell BK183.out 0).trans rfl,(blk_cell BK183.out 1).trans rfl⟩ (fun hHeld=>?_)
          clear hK K
          refine rN (a':=?_) ?_ ?_
          rotate_left
          ·show Act.put _ (some 51) _=_
           simp only [Act.put,q1,q2,q3,i64_w,i32_w]
           rfl
          refine rR ?_
          refine rD HT_ d3 ?_
          have hnb44:=NB184_183.out
          have hnc44:=NB183_184.out
          have hnb45:=NB184_187.out
          have hnc45:=NB187_184.out
          have hcz46_0:w43.cell? ⟨gb184,0,none⟩=some (.int .i64 x185000_2):=(blk_cell BK184.out 0).trans rfl
          have hcz46_1:w43.cell? ⟨gb184,1,none⟩=some (.slice none 0 0):=(blk_cell BK184.out 1).trans rfl
          have hfz46_0:=blk_frozen BK184.out 0
          have hfz46_1:=blk_frozen BK184.out 1
          try go_wp2
          refine bodyPost_ret (results_ct rfl _ _ gb184 69 #[.int .i64 0, .slice none 0 0] (0,0) _ rfl (by (with_reducible repeat (first|refine qn ?_ _|refine qd ?_|refine qa ?_ _));refine blk_put (cs:=#[.int .i64 0, .slice none 0 0]) ?_ 1 _ rfl;(with_reducible repeat (first|refine qn ?_ _|refine qd ?_|refine qa ?_ _));refine blk_put (cs:=#[.int .i64 x185000_2, .slice none 0 0]) ?_ 0 _ rfl;(with_reducible repeat (first|refine qn ?_ _|refine qd ?_|refine qa ?_ _));exact BK184.out) Try.underlying69 rfl d3) rfl ?_
          exact ⟨_,d5,d14,by repeat (first|(with_reducible first|exact HB.out|apply pa|apply pb|apply pd|refine pt ?_ GE183.out|refine pt ?_ GE184.out|refine pt ?_ GE187.out|refine pt ?_ GE189.out)|exact HB.out)⟩
         rw [if_neg c36] at H
         have c36b0:(((rd_T147 l2 x41_2).f0) == a1)=false:=beq_eq_false_iff_ne.mpr c36
         have c36b1:(((rd_T147 l2 x41_2).f0) != a1)=true:=bne_iff_ne.mpr c36
         by_cases c47:x41_2 > 0
         ·rw [if_pos c47] at H
          have c47b0:decide (0 < x41_2)=true:=decide_eq_true c47
          clear c47
          obtain ⟨ji48,hji48⟩:∃ j_:Int,(wrap64 (x41_2 - 1))=j_:=⟨_,rfl⟩
          replace H:(if 0≤(ji48) then (if (ji48) < (l2.length:Int) then (if ((rd_T147 l2 (ji48)).f0) ≥ ((rd_T147 l2 x41_2).f0) then (some (0,([]:List Int),false)) else ((spec_l5Row.f k2 a0_0 a0_1 ((rd_T147 l2 x41_2).f0)).bind fun t192=>(if x188000_2.length < 5864062014805 then (if x10_2.length < 140737488355328 then (spec_RegeneratePiece.l0 k2 a1 l2 (wrap64 (a0_1 - 1)) (x10_2 ++ [(rd_T147 l2 x41_2).f1]) l2 (l2.length:Int) (wrap64 (x41_2+1)) a0_0 a0_1 (x188000_2 ++ [t192])) else (none)) else (none)))) else (none)) else (none))=some (r1,r2,r3):=by first|(rw [hji48] at H;exact H)|(simp only [hji48] at H ⊢;exact H)
          (try rw [hji48] at A34)
          have hji48w:(IntKind.i64.wrap (x41_2 - 1))=ji48:=(i64_w _).trans hji48
          by_cases c49:0≤(ji48)
          ·rw [if_pos c49] at H
           have c49b0:decide (0≤(ji48))=true:=decide_eq_true c49
           clear c49
           by_cases c50:(ji48) < (l2.length:Int)
           ·rw [if_pos c50] at H
            have c50b0:decide ((ji48) < (l2.length:Int))=true:=decide_eq_true c50
            clear c50
            by_cases c51:((rd_T147 l2 (ji48)).f0) ≥ ((rd_T147 l2 x41_2).f0)
            ·rw [if_pos c51] at H
             have c51b0:decide (((rd_T147 l2 x41_2).f0)≤((rd_T147 l2 (ji48)).f0))=true:=decide_eq_true c51
             clear c51
             simp only [Option.some.injEq,Prod.mk.injEq] at H
             obtain ⟨rfl,rfl,rfl⟩:=H
             have p188:0≤(x41_2:Int):=od d2
             have q188:x41_2 < (l2.length:Int):=od d2
             obtain ⟨ad188,e188,hx188_0,hx188_1⟩:=at_T147 HR2.out x41_2 p188 q188
             cases e188
             replace hx188_0:=(HB.out.cell (World.block_lt_of_cell? w _ hx188_0)).trans hx188_0
             replace hx188_1:=(HB.out.cell (World.block_lt_of_cell? w _ hx188_1)).trans hx188_1
             replace p188:=eq_true p188
             replace q188:=eq_true q188
             try go_wp2_with (first|((with_reducible refine gate_dst (N:=12) rfl ?_);(try (refine gate_guard d20 ?_;dsimp only));refine box_event ?hg (N:=12) ?hd (cs:=#[.int .i64 0, .int .u8 0]) (t:=147) ?hr ?_;(case hd=>rfl);(case hg=>rfl);(case hr=>first|(go_simp;done)|(go_simp;rfl));intro gb189 hg w52 hbox hb;have n0_:=am (Kd.R_below d6 hb);have n1_:=am (Kd.N_below (Kd.N_elderB d13 gb189 (Nat.le_of_eq hg.symm)) hb);have n2_:=am (qb (g:=gb183) (o:=.cells #[.int .i64 a0_0, .int .i64 a0_1] 72 (0,0)) (by (with_reducible repeat (first|refine qn ?_ _|refine qd ?_|refine qa ?_ _));exact BK183.out) hb);have n3_:=am (qb (g:=gb184) (o:=.cells #[.int .i64 x185000_2, .slice none 0 0] 69 (0,0)) (by (with_reducible repeat (first|refine qn ?_ _|refine qd ?_|refine qa ?_ _));exact BK184.out) hb);have n4_:=am (qb (g:=gb187) (o:=.cells #[u188000] 43 (0,0)) (by (with_reducible repeat (first|refine qn ?_ _|refine qd ?_|refine qa ?_ _));exact BK187.out) hb);have n5_:=am (pu (by repeat (first|(with_reducible first|exact HB.out|apply pa|apply pb|apply pd|refine pt ?_ GE183.out|refine pt ?_ GE184.out|refine pt ?_ GE187.out)|exact HB.out)) hb);have n6_:=am (hbox);have n7_:=am ((by rw [hg];exact (pz (by repeat (first|(with_reducible first|exact HB.out|apply pa|apply pb|apply pd|refine pt ?_ GE183.out|refine pt ?_ GE184.out|refine pt ?_ GE187.out)|exact HB.out))):w.heap.size≤gb189));have n8_:=n7_;have n9_:=am ((by rw [hg];exact Nat.ne_of_lt (blk_lt (g:=gb183) (o:=.cells #[.int .i64 a0_0, .int .i64 a0_1] 72 (0,0)) (by (with_reducible repeat (first|refine qn ?_ _|refine qd ?_|refine qa ?_ _));exact BK183.out)):gb183 ≠ gb189));have n10_:=am ((by rw [hg];exact Nat.ne_of_gt (blk_lt (g:=gb183) (o:=.cells #[.int .i64 a0_0, .int .i64 a0_1] 72 (0,0)) (by (with_reducible repeat (first|refine qn ?_ _|refine qd ?_|refine qa ?_ _));exact BK183.out)):gb189 ≠ gb183));have n11_:=am ((by rw [hg];exact Nat.ne_of_lt (blk_lt (g:=gb184) (o:=.cells #[.int .i64 x185000_2, .slice none 0 0] 69 (0,0)) (by (with_reducible repeat (first|refine qn ?_ _|refine qd ?_|refine qa ?_ _));exact BK184.out)):gb184 ≠ gb189));have n12_:=am ((by rw [hg];exact Nat.ne_of_gt (blk_lt (g:=gb184) (o:=.cells #[.int .i64 x185000_2, .slice none 0 0] 69 (0,0)) (by (with_reducible repeat (first|refine qn ?_ _|refine qd ?_|refine qa ?_ _));exact BK184.out)):gb189 ≠ gb184));have n13_:=am ((by rw [hg];exact Nat.ne_of_lt (blk_lt (g:=gb187) (o:=.cells #[u188000] 43 (0,0)) (by (with_reducible repeat (first|refine qn ?_ _|refine qd ?_|refine qa ?_ _));exact BK187.out)):gb187 ≠ gb189));have n14_:=am ((by rw [hg];exact Nat.ne_of_gt (blk_lt (g:=gb187) (o:=.cells #[u188000] 43 (0,0)) (by (with_reducible repeat (first|refine qn ?_ _|refine qd ?_|refine qa ?_ _));exact BK187.out)):gb189 ≠ gb187));clear HO_10;clear HO_188000;clear BK183;clear BK184;clear BK187;clear HB;have HO_10:=n0_;have HO_188000:=n1_;have BK183:=n2_;have BK184:=n3_;have BK187:=n4_;have HB:=n5_;have BK189:=n6_;have GW189:=n7_;have GE189:=n8_;have NB183_189:=n9_;have NB189_183:=n10_;have NB184_189:=n11_;have NB189_184:=n12_;have NB187_189:=n13_;have NB189_187:=n14_;clear n0_ n1_ n2_ n3_ n4_ n5_ n6_ n7_ n8_ n9_ n10_ n11_ n12_ n13_ n14_;clear hb hbox hg;have hnb53:=NB189_183.out;have hnc53:=NB183_189.out;have hnb54:=NB189_184.out;have hnc54:=NB184_189.out;have hnb55:=NB189_187.out;have hnc55:=NB187_189.out;have hcz56_0:w52.cell? ⟨gb189,0,none⟩=some (.int .i64 0):=(blk_cell BK189.out 0).trans rfl;have hcz56_1:w52.cell? ⟨gb189,1,none⟩=some (.int .u8 0):=(blk_cell BK189.out 1).trans rfl;have hfz56_0:=blk_frozen BK189.out 0;have hfz56_1:=blk_frozen BK189.out 1))
             have n0_:Aside0 (Kd.R (Kd.int .u8) 5 ((w52.setCell ⟨gb189,0,none⟩ (.int .i64 ((rd_T147 l2 x41_2).f0))).setCell ⟨gb189,1,none⟩ (.int .u8 ((rd_T147 l2 x41_2).f1))) w.heap.size (fun _=>True) u10 x10_2):=⟨d17⟩
             have n1_:Aside0 (Kd.N (Kd.slice 5 (Kd.int .u8)) 57 ((w52.setCell ⟨gb189,0,none⟩ (.int .i64 ((rd_T147 l2 x41_2).f0))).setCell ⟨gb189,1,none⟩ (.int .u8 ((rd_T147 l2 x41_2).f1))) w.heap.size (fun k_=>some k_ ≠ (u10:Value).ownBlock∧k_ ≠ gb183∧k_ ≠ gb184∧k_ ≠ gb187∧k_ ≠ gb189) u188000 x188000_2):=⟨d16⟩
             have n2_:Aside0 (((w52.setCell ⟨gb189,0,none⟩ (.int .i64 ((rd_T147 l2 x41_2).f0))).setCell ⟨gb189,1,none⟩ (.int .u8 ((rd_T147 l2 x41_2).f1))).heap[gb183]? = some (.cells #[.int .i64 a0_0, .int .i64 a0_1] 72 (0,0))):=⟨by (with_reducible repeat (first|refine qn ?_ _|refine qd ?_|refine qa ?_ _));refine blk_far ?_ NB183_189.out _;(with_reducible repeat (first|refine qn ?_ _|refine qd ?_|refine qa ?_ _));refine blk_far ?_ NB183_189.out _;(with_reducible repeat (first|refine qn ?_ _|refine qd ?_|refine qa ?_ _));exact BK183.out⟩
             have n3_:Aside0 (((w52.setCell ⟨gb189,0,none⟩ (.int .i64 ((rd_T147 l2 x41_2).f0))).setCell ⟨gb189,1,none⟩ (.int .u8 ((rd_T147 l2 x41_2).f1))).heap[gb184]? = some (.cells #[.int .i64 x185000_2, .slice none 0 0] 69 (0,0))):=⟨by (with_reducible repeat (first|refine qn ?_ _|refine qd ?_|refine qa ?_ _));refine blk_far ?_ NB184_189.out _;(with_reducible repeat (first|refine qn ?_ _|refine qd ?_|refine qa ?_ _));refine blk_far ?_ NB184_189.out _;(with_reducible repeat (first|refine qn ?_ _|refine qd ?_|refine qa ?_ _));exact BK184.out⟩
             have n4_:Aside0 (((w52.setCell ⟨gb189,0,none⟩ (.int .i64 ((rd_T147 l2 x41_2).f0))).setCell ⟨gb189,1,none⟩ (.int .u8 ((rd_T147 l2 x41_2).f1))).heap[gb187]? = some (.cells #[u188000] 43 (0,0))):=⟨by (with_reducible repeat (first|refine qn ?_ _|refine qd ?_|refine qa ?_ _));refine blk_far ?_ NB187_189.out _;(with_reducible repeat (first|refine qn ?_ _|refine qd ?_|refine qa ?_ _));refine blk_far ?_ NB187_189.out _;(with_reducible repeat (first|refine qn ?_ _|refine qd ?_|refine qa ?_ _));exact BK187.out⟩
             have n5_:Aside0 (((w52.setCell ⟨gb189,0,none⟩ (.int .i64 ((rd_T147 l2 x41_2).f0))).setCell ⟨gb189,1,none⟩ (.int .u8 ((rd_T147 l2 x41_2).f1))).heap[gb189]? = some (.cells #[.int .i64 ((rd_T147 l2 x41_2).f0), .int .u8 ((rd_T147 l2 x41_2).f1)] 147 (0,0))):=⟨by (with_reducible repeat (first|refine qn ?_ _|refine qd ?_|refine qa ?_ _));refine blk_put (cs:=#[.int .i64 ((rd_T147 l2 x41_2).f0), .int .u8 0]) ?_ 1 _ rfl;(with_reducible repeat (first|refine qn ?_ _|refine qd ?_|refine qa ?_ _));refine blk_put (cs:=#[.int .i64 0, .int .u8 0]) ?_ 0 _ rfl;(with_reducible repeat (first|refine qn ?_ _|refine qd ?_|refine qa ?_ _));exact BK189.out⟩
             have n6_:Aside0 (Below w.heap.size w ((w52.setCell ⟨gb189,0,none⟩ (.int .i64 ((rd_T147 l2 x41_2).f0))).setCell ⟨gb189,1,none⟩ (.int .u8 ((rd_T147 l2 x41_2).f1)))):=⟨by repeat (first|(with_reducible first|exact HB.out|apply pa|apply pb|apply pd|refine pt ?_ GE183.out|refine pt ?_ GE184.out|refine pt ?_ GE187.out|refine pt ?_ GE189.out)|exact HB.out)⟩
             (try clear HO_10)
             (try clear HO_188000)
             (try clear BK183)
             (try clear BK184)
             (try clear BK187)
             (try clear BK189)
             (try clear HB)
             generalize ((w52.setCell ⟨gb189,0,none⟩ (.int .i64 ((rd_T147 l2 x41_2).f0))).setCell ⟨gb189,1,none⟩ (.int .u8 ((rd_T147 l2 x41_2).f1)))=w57 at n0_ n1_ n2_ n3_ n4_ n5_ n6_ ⊢
             have HO_10:=n0_
             have HO_188000:=n1_
             have BK183:=n2_
             have BK184:=n3_
             have BK187:=n4_
             have BK189:=n5_
             have HB:=n6_
             clear n0_ n1_ n2_ n3_ n4_ n5_ n6_
             have n0_:=am (Kd.R_drew HO_10.out)
             have n1_:=am (Kd.N_drew HO_188000.out)
             have n2_:=am (qd BK183.out)
             have n3_:=am (qd BK184.out)
             have n4_:=am (qd BK187.out)
             have n5_:=am (qd BK189.out)
             have n6_:=am (pd HB.out)
             clear HO_10
             clear HO_188000
             clear BK183
             clear BK184
             clear BK187
             clear BK189
             clear HB
             have HO_10:=n0_
             have HO_188000:=n1_
             have BK183:=n2_
             have BK184:=n3_
             have BK187:=n4_
             have BK189:=n5_
             have HB:=n6_
             clear n0_ n1_ n2_ n3_ n4_ n5_ n6_
             have p191:0≤((ji48):Int):=od d2
             have q191:(ji48) < (l2.length:Int):=od d2
             obtain ⟨ad191,e191,hx191_0,hx191_1⟩:=at_T147 HR2.out (ji48) p191 q191
             have hw191_1:=hx191_1
             have hw191_0:=hx191_0
             obtain rfl:ad188=ad191:=(by injection e191)
             replace hx191_0:=(HB.out.cell (World.block_lt_of_cell? w _ hx191_0)).trans hx191_0
             replace hx191_1:=(HB.out.cell (World.block_lt_of_cell? w _ hx191_1)).trans hx191_1
             replace p191:=eq_true p191
             replace q191:=eq_true q191
             refine rS (n:=28) (S:=fun w'=>w'.cell? ⟨gb189,0,none⟩=some (.int .i64 ((rd_T147 l2 x41_2).f0))∧w'.cell? ⟨gb189,1,none⟩=some (.int .u8 ((rd_T147 l2 x41_2).f1))∧w'.cell? ⟨gb183,0,none⟩=some (.int .i64 a0_0)∧w'.cell? ⟨gb183,1,none⟩=some (.int .i64 a0_1)∧w'.cell? (ad188.add (((ji48)).toNat*2))=some (.int .i64 ((rd_T147 l2 (ji48)).f0))∧w'.cell? ⟨(ad188.add (((ji48)).toNat*2)).block,(ad188.add (((ji48)).toNat*2)).off+1,none⟩=some (.int .u8 ((rd_T147 l2 (ji48)).f1))) (ds:=[]) [(0,46),(2,48),(1,47),(3,49),(4,50),(5,0),(6,52),(7,53),(8,54),(10,56),(9,55),(11,57),(12,58),(13,59),(14,60),(15,61),(16,62),(17,63),(18,64),(19,65),(20,66),(21,67),(23,69),(22,68),(24,70),(25,71),(26,72),(27,73)] d3 rfl spec_RegeneratePiece.tab9 spec_RegeneratePiece.bits9 ⟨(blk_cell BK189.out 0).trans rfl,(blk_cell BK189.out 1).trans rfl,(blk_cell BK183.out 0).trans rfl,(blk_cell BK183.out 1).trans rfl,((HB.out.cell (World.block_lt_of_cell? w _ hw191_0)).trans hw191_0),((HB.out.cell (World.block_lt_of_cell? w _ hw191_1)).trans hw191_1)⟩ (fun hHeld HT_ HW_=>?_)
             generalize w57.drew=w58 at HO_10 HO_188000 BK183 BK184 BK187 BK189 HB hx191_0 hx191_1 hHeld ⊢
             refine rR ?_
             refine rO (N:=some 51) HT_ rfl rfl d3 d8 (fun K hK=>?_)
             refine goes_ Try.func121 d3 rfl #[.int .i64 ((rd_T147 l2 x41_2).f0), .int .i64 0, .int .i64 (wrap64 (a0_0 - 1))] d20 rfl rfl d1 ?_
             with_reducible refine (spec_l1In.calls ((rd_T147 l2 x41_2).f0) 0 (wrap64 (a0_0 - 1)) true _ A34.out).mono ?_
             rintro e w' ⟨rfl,⟨nd,rfl⟩⟩
             refine ⟨_,rfl,?_⟩
             refine hK.out _ _ ⟨(blk_cell BK189.out 0).trans rfl,(blk_cell BK189.out 1).trans rfl,(blk_cell BK183.out 0).trans rfl,(blk_cell BK183.out 1).trans rfl,((HB.out.cell (World.block_lt_of_cell? w _ hw191_0)).trans hw191_0),((HB.out.cell (World.block_lt_of_cell? w _ hw191_1)).trans hw191_1)⟩ (fun hHeld=>?_)
             clear hK K
             refine rN (a':=?_) ?_ ?_
             rotate_left
             ·show Act.put _ (some 51) _=_
              simp only [Act.put,q1,q2,q3,i64_w,i32_w]
              rfl
             refine rR ?_
             refine rD HT_ d3 ?_
             have hnb59:=NB184_183.out
             have hnc59:=NB183_184.out
             have hnb60:=NB184_187.out
             have hnc60:=NB187_184.out
             have hcz61_0:w58.cell? ⟨gb184,0,none⟩=some (.int .i64 x185000_2):=(blk_cell BK184.out 0).trans rfl
             have hcz61_1:w58.cell? ⟨gb184,1,none⟩=some (.slice none 0 0):=(blk_cell BK184.out 1).trans rfl
             have hfz61_0:=blk_frozen BK184.out 0
             have hfz61_1:=blk_frozen BK184.out 1
             try go_wp2
             refine bodyPost_ret (results_ct rfl _ _ gb184 69 #[.int .i64 0, .slice none 0 0] (0,0) _ rfl (by (with_reducible repeat (first|refine qn ?_ _|refine qd ?_|refine qa ?_ _));refine blk_put (cs:=#[.int .i64 0, .slice none 0 0]) ?_ 1 _ rfl;(with_reducible repeat (first|refine qn ?_ _|refine qd ?_|refine qa ?_ _));refine blk_put (cs:=#[.int .i64 x185000_2, .slice none 0 0]) ?_ 0 _ rfl;(with_reducible repeat (first|refine qn ?_ _|refine qd ?_|refine qa ?_ _));exact BK184.out) Try.underlying69 rfl d3) rfl ?_
             exact ⟨_,by first|rfl|(simp [errW_none,errW_some] <;> rfl)|(simp only [← hji48];first|rfl|(simp [errW_none,errW_some] <;> rfl))|(simp [*,errW_none,errW_some] <;> rfl),d14,by repeat (first|(with_reducible first|exact HB.out|apply pa|apply pb|apply pd|refine pt ?_ GE183.out|refine pt ?_ GE184.out|refine pt ?_ GE187.out|refine pt ?_ GE189.out)|exact HB.out)⟩
            rw [if_neg c51] at H
            have c51b0:decide (((rd_T147 l2 x41_2).f0)≤((rd_T147 l2 (ji48)).f0))=false:=decide_eq_false c51
            clear c51
            replace H:=Option.bind_eq_some_iff.mp H
            obtain ⟨t192,A620,H⟩:=H
            replace H:(if x188000_2.length < 5864062014805 then (if x10_2.length < 140737488355328 then (spec_RegeneratePiece.l0 k2 a1 l2 (wrap64 (a0_1 - 1)) (x10_2 ++ [(rd_T147 l2 x41_2).f1]) l2 (l2.length:Int) (wrap64 (x41_2+1)) a0_0 a0_1 (x188000_2 ++ [t192])) else (none)) else (none))=some (r1,r2,r3):=H
            have A62:=am A620
            clear A620
            by_cases c63:x188000_2.length < 5864062014805
            ·rw [if_pos c63] at H
             have LMc63:=am c63
             clear c63
             obtain ⟨y195,hy195⟩:∃ y_:List (List Int),y_=(x188000_2 ++ [t192]):=⟨_,rfl⟩
             replace H:(if x10_2.length < 140737488355328 then (spec_RegeneratePiece.l0 k2 a1 l2 (wrap64 (a0_1 - 1)) (x10_2 ++ [(rd_T147 l2 x41_2).f1]) l2 (l2.length:Int) (wrap64 (x41_2+1)) a0_0 a0_1 y195) else (none))=some (r1,r2,r3):=by first|(rw [hy195];with_reducible exact H)|(have H2_:=(Option.bind_some _ _).symm.trans H;rw [hy195];with_reducible exact H2_)|(have H2_:=(Option.bind_some _ _).symm.trans H;with_reducible exact H2_)|with_reducible exact H|(rw [hy195];exact H)|exact H
             have Ny195:=am hy195
             clear hy195
             by_cases c64:x10_2.length < 140737488355328
             ·rw [if_pos c64] at H
              have LMc64:=am c64
              clear c64
              obtain ⟨y198,hy198⟩:∃ y_:List Int,y_=(x10_2 ++ [(rd_T147 l2 x41_2).f1]):=⟨_,rfl⟩
              replace H:(spec_RegeneratePiece.l0 k2 a1 l2 (wrap64 (a0_1 - 1)) y198 l2 (l2.length:Int) (wrap64 (x41_2+1)) a0_0 a0_1 y195)=some (r1,r2,r3):=by first|(rw [hy198];with_reducible exact H)|(have H2_:=(Option.bind_some _ _).symm.trans H;rw [hy198];with_reducible exact H2_)|(have H2_:=(Option.bind_some _ _).symm.trans H;with_reducible exact H2_)|with_reducible exact H|(rw [hy198];exact H)|exact H
              have Ny198:=am hy198
              clear hy198
              have H':=am H
              clear H
              have p188:0≤(x41_2:Int):=od d2
              have q188:x41_2 < (l2.length:Int):=od d2
              obtain ⟨ad188,e188,hx188_0,hx188_1⟩:=at_T147 HR2.out x41_2 p188 q188
              cases e188
              replace hx188_0:=(HB.out.cell (World.block_lt_of_cell? w _ hx188_0)).trans hx188_0
              replace hx188_1:=(HB.out.cell (World.block_lt_of_cell? w _ hx188_1)).trans hx188_1
              replace p188:=eq_true p188
              replace q188:=eq_true q188
              try go_wp2_with (first|((with_reducible refine gate_dst (N:=12) rfl ?_);(try (refine gate_guard d20 ?_;dsimp only));refine box_event ?hg (N:=12) ?hd (cs:=#[.int .i64 0, .int .u8 0]) (t:=147) ?hr ?_;(case hd=>rfl);(case hg=>rfl);(case hr=>first|(go_simp;done)|(go_simp;rfl));intro gb189 hg w65 hbox hb;have n0_:=am (Kd.R_below d6 hb);have n1_:=am (Kd.N_below (Kd.N_elderB d13 gb189 (Nat.le_of_eq hg.symm)) hb);have n2_:=am (qb (g:=gb183) (o:=.cells #[.int .i64 a0_0, .int .i64 a0_1] 72 (0,0)) (by (with_reducible repeat (first|refine qn ?_ _|refine qd ?_|refine qa ?_ _));exact BK183.out) hb);have n3_:=am (qb (g:=gb184) (o:=.cells #[.int .i64 x185000_2, .slice none 0 0] 69 (0,0)) (by (with_reducible repeat (first|refine qn ?_ _|refine qd ?_|refine qa ?_ _));exact BK184.out) hb);have n4_:=am (qb (g:=gb187) (o:=.cells #[u188000] 43 (0,0)) (by (with_reducible repeat (first|refine qn ?_ _|refine qd ?_|refine qa ?_ _));exact BK187.out) hb);have n5_:=am (pu (by repeat (first|(with_reducible first|exact HB.out|apply pa|apply pb|apply pd|refine pt ?_ GE183.out|refine pt ?_ GE184.out|refine pt ?_ GE187.out)|exact HB.out)) hb);have n6_:=am (hbox);have n7_:=am ((by rw [hg];exact (pz (by repeat (first|(with_reducible first|exact HB.out|apply pa|apply pb|apply pd|refine pt ?_ GE183.out|refine pt ?_ GE184.out|refine pt ?_ GE187.out)|exact HB.out))):w.heap.size≤gb189));have n8_:=n7_;have n9_:=am ((by rw [hg];exact Nat.ne_of_lt (blk_lt (g:=gb183) (o:=.cells #[.int .i64 a0_0, .int .i64 a0_1] 72 (0,0)) (by (with_reducible repeat (first|refine qn ?_ _|refine qd ?_|refine qa ?_ _));exact BK183.out)):gb183 ≠ gb189));have n10_:=am ((by rw [hg];exact Nat.ne_of_gt (blk_lt (g:=gb183) (o:=.cells #[.int .i64 a0_0, .int .i64 a0_1] 72 (0,0)) (by (with_reducible repeat (first|refine qn ?_ _|refine qd ?_|refine qa ?_ _));exact BK183.out)):gb189 ≠ gb183));have n11_:=am ((by rw [hg];exact Nat.ne_of_lt (blk_lt (g:=gb184) (o:=.cells #[.int .i64 x185000_2, .slice none 0 0] 69 (0,0)) (by (with_reducible repeat (first|refine qn ?_ _|refine qd ?_|refine qa ?_ _));exact BK184.out)):gb184 ≠ gb189));have n12_:=am ((by rw [hg];exact Nat.ne_of_gt (blk_lt (g:=gb184) (o:=.cells #[.int .i64 x185000_2, .slice none 0 0] 69 (0,0)) (by (with_reducible repeat (first|refine qn ?_ _|refine qd ?_|refine qa ?_ _));exact BK184.out)):gb189 ≠ gb184));have n13_:=am ((by rw [hg];exact Nat.ne_of_lt (blk_lt (g:=gb187) (o:=.cells #[u188000] 43 (0,0)) (by (with_reducible repeat (first|refine qn ?_ _|refine qd ?_|refine qa ?_ _));exact BK187.out)):gb187 ≠ gb189));have n14_:=am ((by rw [hg];exact Nat.ne_of_gt (blk_lt (g:=gb187) (o:=.cells #[u188000] 43 (0,0)) (by (with_reducible repeat (first|refine qn ?_ _|refine qd ?_|refine qa ?_ _));exact BK187.out)):gb189 ≠ gb187));clear HO_10;clear HO_188000;clear BK183;clear BK184;clear BK187;clear HB;have HO_10:=n0_;have HO_188000:=n1_;have BK183:=n2_;have BK184:=n3_;have BK187:=n4_;have HB:=n5_;have BK189:=n6_;have GW189:=n7_;have GE189:=n8_;have NB183_189:=n9_;have NB189_183:=n10_;have NB184_189:=n11_;have NB189_184:=n12_;have NB187_189:=n13_;have NB189_187:=n14_;clear n0_ n1_ n2_ n3_ n4_ n5_ n6_ n7_ n8_ n9_ n10_ n11_ n12_ n13_ n14_;clear hb hbox hg;have hnb66:=NB189_183.out;have hnc66:=NB183_189.out;have hnb67:=NB189_184.out;have hnc67:=NB184_189.out;have hnb68:=NB189_187.out;have hnc68:=NB187_189.out;have hcz69_0:w65.cell? ⟨gb189,0,none⟩=some (.int .i64 0):=(blk_cell BK189.out 0).trans rfl;have hcz69_1:w65.cell? ⟨gb189,1,none⟩=some (.int .u8 0):=(blk_cell BK189.out 1).trans rfl;have hfz69_0:=blk_frozen BK189.out 0;have hfz69_1:=blk_frozen BK189.out 1))
              have n0_:Aside0 (Kd.R (Kd.int .u8) 5 ((w65.setCell ⟨gb189,0,none⟩ (.int .i64 ((rd_T147 l2 x41_2).f0))).setCell ⟨gb189,1,none⟩ (.int .u8 ((rd_T147 l2 x41_2).f1))) w.heap.size (fun _=>True) u10 x10_2):=⟨d17⟩
              have n1_:Aside0 (Kd.N (Kd.slice 5 (Kd.int .u8)) 57 ((w65.setCell ⟨gb189,0,none⟩ (.int .i64 ((rd_T147 l2 x41_2).f0))).setCell ⟨gb189,1,none⟩ (.int .u8 ((rd_T147 l2 x41_2).f1))) w.heap.size (fun k_=>some k_ ≠ (u10:Value).ownBlock∧k_ ≠ gb183∧k_ ≠ gb184∧k_ ≠ gb187∧k_ ≠ gb189) u188000 x188000_2):=⟨d16⟩
              have n2_:Aside0 (((w65.setCell ⟨gb189,0,none⟩ (.int .i64 ((rd_T147 l2 x41_2).f0))).setCell ⟨gb189,1,none⟩ (.int .u8 ((rd_T147 l2 x41_2).f1))).heap[gb183]? = some (.cells #[.int .i64 a0_0, .int .i64 a0_1] 72 (0,0))):=⟨by (with_reducible repeat (first|refine qn ?_ _|refine qd ?_|refine qa ?_ _));refine blk_far ?_ NB183_189.out _;(with_reducible repeat (first|refine qn ?_ _|refine qd ?_|refine qa ?_ _));refine blk_far ?_ NB183_189.out _;(with_reducible repeat (first|refine qn ?_ _|refine qd ?_|refine qa ?_ _));exact BK183.out⟩
              have n3_:Aside0 (((w65.setCell ⟨gb189,0,none⟩ (.int .i64 ((rd_T147 l2 x41_2).f0))).setCell ⟨gb189,1,none⟩ (.int .u8 ((rd_T147 l2 x41_2).f1))).heap[gb184]? = some (.cells #[.int .i64 x185000_2, .slice none 0 0] 69 (0,0))):=⟨by (with_reducible repeat (first|refine qn ?_ _|refine qd ?_|refine qa ?_ _));refine blk_far ?_ NB184_189.out _;(with_reducible repeat (first|refine qn ?_ _|refine qd ?_|refine qa ?_ _));refine blk_far ?_ NB184_189.out _;(with_reducible repeat (first|refine qn ?_ _|refine qd ?_|refine qa ?_ _));exact BK184.out⟩
              have n4_:Aside0 (((w65.setCell ⟨gb189,0,none⟩ (.int .i64 ((rd_T147 l2 x41_2).f0))).setCell ⟨gb189,1,none⟩ (.int .u8 ((rd_T147 l2 x41_2).f1))).heap[gb187]? = some (.cells #[u188000] 43 (0,0))):=⟨by (with_reducible repeat (first|refine qn ?_ _|refine qd ?_|refine qa ?_ _));refine blk_far ?_ NB187_189.out _;(with_reducible repeat (first|refine qn ?_ _|refine qd ?_|refine qa ?_ _));refine blk_far ?_ NB187_189.out _;(with_reducible repeat (first|refine qn ?_ _|refine qd ?_|refine qa ?_ _));exact BK187.out⟩
              have n5_:Aside0 (((w65.setCell ⟨gb189,0,none⟩ (.int .i64 ((rd_T147 l2 x41_2).f0))).setCell ⟨gb189,1,none⟩ (.int .u8 ((rd_T147 l2 x41_2).f1))).heap[gb189]? = some (.cells #[.int .i64 ((rd_T147 l2 x41_2).f0), .int .u8 ((rd_T147 l2 x41_2).f1)] 147 (0,0))):=⟨by (with_reducible repeat (first|refine qn ?_ _|refine qd ?_|refine qa ?_ _));refine blk_put (cs:=#[.int .i64 ((rd_T147 l2 x41_2).f0), .int .u8 0]) ?_ 1 _ rfl;(with_reducible repeat (first|refine qn ?_ _|refine qd ?_|refine qa ?_ _));refine blk_put (cs:=#[.int .i64 0, .int .u8 0]) ?_ 0 _ rfl;(with_reducible repeat (first|refine qn ?_ _|refine qd ?_|refine qa ?_ _));exact BK189.out⟩
              have n6_:Aside0 (Below w.heap.size w ((w65.setCell ⟨gb189,0,none⟩ (.int .i64 ((rd_T147 l2 x41_2).f0))).setCell ⟨gb189,1,none⟩ (.int .u8 ((rd_T147 l2 x41_2).f1)))):=⟨by repeat (first|(with_reducible first|exact HB.out|apply pa|apply pb|apply pd|refine pt ?_ GE183.out|refine pt ?_ GE184.out|refine pt ?_ GE187.out|refine pt ?_ GE189.out)|exact HB.out)⟩
              (try clear HO_10)
              (try clear HO_188000)
              (try clear BK183)
              (try clear BK184)
              (try clear BK187)
              (try clear BK189)
              (try clear HB)
              generalize ((w65.setCell ⟨gb189,0,none⟩ (.int .i64 ((rd_T147 l2 x41_2).f0))).setCell ⟨gb189,1,none⟩ (.int .u8 ((rd_T147 l2 x41_2).f1)))=w70 at n0_ n1_ n2_ n3_ n4_ n5_ n6_ ⊢
              have HO_10:=n0_
              have HO_188000:=n1_
              have BK183:=n2_
              have BK184:=n3_
              have BK187:=n4_
              have BK189:=n5_
              have HB:=n6_
              clear n0_ n1_ n2_ n3_ n4_ n5_ n6_
              have n0_:=am (Kd.R_drew HO_10.out)
              have n1_:=am (Kd.N_drew HO_188000.out)
              have n2_:=am (qd BK183.out)
              have n3_:=am (qd BK184.out)
              have n4_:=am (qd BK187.out)
              have n5_:=am (qd BK189.out)
              have n6_:=am (pd HB.out)
              clear HO_10
              clear HO_188000
              clear BK183
              clear BK184
              clear BK187
              clear BK189
              clear HB
              have HO_10:=n0_
              have HO_188000:=n1_
              have BK183:=n2_
              have BK184:=n3_
              have BK187:=n4_
              have BK189:=n5_
              have HB:=n6_
              clear n0_ n1_ n2_ n3_ n4_ n5_ n6_
              have p191:0≤((ji48):Int):=od d2
              have q191:(ji48) < (l2.length:Int):=od d2
              obtain ⟨ad191,e191,hx191_0,hx191_1⟩:=at_T147 HR2.out (ji48) p191 q191
              have hw191_1:=hx191_1
              have hw191_0:=hx191_0
              obtain rfl:ad188=ad191:=(by injection e191)
              replace hx191_0:=(HB.out.cell (World.block_lt_of_cell? w _ hx191_0)).trans hx191_0
              replace hx191_1:=(HB.out.cell (World.block_lt_of_cell? w _ hx191_1)).trans hx191_1
              replace p191:=eq_true p191
              replace q191:=eq_true q191
              refine rS (n:=28) (S:=fun w'=>w'.cell? ⟨gb189,0,none⟩=some (.int .i64 ((rd_T147 l2 x41_2).f0))∧w'.cell? ⟨gb189,1,none⟩=some (.int .u8 ((rd_T147 l2 x41_2).f1))∧w'.cell? ⟨gb183,0,none⟩=some (.int .i64 a0_0)∧w'.cell? ⟨gb183,1,none⟩=some (.int .i64 a0_1)∧w'.cell? (ad188.add (((ji48)).toNat*2))=some (.int .i64 ((rd_T147 l2 (ji48)).f0))∧w'.cell? ⟨(ad188.add (((ji48)).toNat*2)).block,(ad188.add (((ji48)).toNat*2)).off+1,none⟩=some (.int .u8 ((rd_T147 l2 (ji48)).f1))) (ds:=[]) [(0,46),(2,48),(1,47),(3,49),(4,50),(5,0),(6,52),(7,53),(8,54),(10,56),(9,55),(11,57),(12,58),(13,59),(14,60),(15,61),(16,62),(17,63),(18,64),(19,65),(20,66),(21,67),(23,69),(22,68),(24,70),(25,71),(26,72),(27,73)] d3 rfl spec_RegeneratePiece.tab9 spec_RegeneratePiece.bits9 ⟨(blk_cell BK189.out 0).trans rfl,(blk_cell BK189.out 1).trans rfl,(blk_cell BK183.out 0).trans rfl,(blk_cell BK183.out 1).trans rfl,((HB.out.cell (World.block_lt_of_cell? w _ hw191_0)).trans hw191_0),((HB.out.cell (World.block_lt_of_cell? w _ hw191_1)).trans hw191_1)⟩ (fun hHeld HT_ HW_=>?_)
              generalize w70.drew=w71 at HO_10 HO_188000 BK183 BK184 BK187 BK189 HB hx191_0 hx191_1 hHeld ⊢
              refine rR ?_
              refine rO (N:=some 51) HT_ rfl rfl d3 d8 (fun K hK=>?_)
              refine goes_ Try.func121 d3 rfl #[.int .i64 ((rd_T147 l2 x41_2).f0), .int .i64 0, .int .i64 (wrap64 (a0_0 - 1))] d20 rfl rfl d1 ?_
              with_reducible refine (spec_l1In.calls ((rd_T147 l2 x41_2).f0) 0 (wrap64 (a0_0 - 1)) true _ A34.out).mono ?_
              rintro e w' ⟨rfl,⟨nd,rfl⟩⟩
              refine ⟨_,rfl,?_⟩
              refine hK.out _ _ ⟨(blk_cell BK189.out 0).trans rfl,(blk_cell BK189.out 1).trans rfl,(blk_cell BK183.out 0).trans rfl,(blk_cell BK183.out 1).trans rfl,((HB.out.cell (World.block_lt_of_cell? w _ hw191_0)).trans hw191_0),((HB.out.cell (World.block_lt_of_cell? w _ hw191_1)).trans hw191_1)⟩ (fun hHeld=>?_)
              clear hK K
              refine rN (a':=?_) ?_ ?_
              rotate_left
              ·show Act.put _ (some 51) _=_
               simp only [Act.put,q1,q2,q3,i64_w,i32_w]
               rfl
              refine rR ?_
              refine rD HT_ d3 ?_
              try go_wp2
              (try (rw [drewN_self w71];generalize hq_:World.drewN w71 _=w71;have n0_:Aside0 (Kd.R (Kd.int .u8) 5 w71 w.heap.size (fun _=>True) u10 x10_2):=⟨by rw [← hq_];exact d6⟩;have n1_:Aside0 (Kd.N (Kd.slice 5 (Kd.int .u8)) 57 w71 w.heap.size (fun k_=>some k_ ≠ (u10:Value).ownBlock∧k_ ≠ gb183∧k_ ≠ gb184∧k_ ≠ gb187∧k_ ≠ gb189) u188000 x188000_2):=⟨by rw [← hq_];exact d13⟩;have n2_:Aside0 (w71.heap[gb183]? = some (.cells #[.int .i64 a0_0, .int .i64 a0_1] 72 (0,0))):=⟨by rw [← hq_];exact (by (with_reducible repeat (first|refine qn ?_ _|refine qd ?_|refine qa ?_ _));exact BK183.out)⟩;have n3_:Aside0 (w71.heap[gb184]? = some (.cells #[.int .i64 x185000_2, .slice none 0 0] 69 (0,0))):=⟨by rw [← hq_];exact (by (with_reducible repeat (first|refine qn ?_ _|refine qd ?_|refine qa ?_ _));exact BK184.out)⟩;have n4_:Aside0 (w71.heap[gb187]? = some (.cells #[u188000] 43 (0,0))):=⟨by rw [← hq_];exact (by (with_reducible repeat (first|refine qn ?_ _|refine qd ?_|refine qa ?_ _));exact BK187.out)⟩;have n5_:Aside0 (w71.heap[gb189]? = some (.cells #[.int .i64 ((rd_T147 l2 x41_2).f0), .int .u8 ((rd_T147 l2 x41_2).f1)] 147 (0,0))):=⟨by rw [← hq_];exact (by (with_reducible repeat (first|refine qn ?_ _|refine qd ?_|refine qa ?_ _));exact BK189.out)⟩;have n6_:Aside0 (Below w.heap.size w w71):=⟨by rw [← hq_];exact (by repeat (first|(with_reducible first|exact HB.out|apply pa|apply pb|apply pd|refine pt ?_ GE183.out|refine pt ?_ GE184.out|refine pt ?_ GE187.out|refine pt ?_ GE189.out)|exact HB.out))⟩;clear HO_10 HO_188000 BK183 BK184 BK187 BK189 HB hq_;have HO_10:=n0_;have HO_188000:=n1_;have BK183:=n2_;have BK184:=n3_;have BK187:=n4_;have BK189:=n5_;have HB:=n6_;clear n0_ n1_ n2_ n3_ n4_ n5_ n6_))
              have n0_:=am (Kd.R_drew HO_10.out)
              have n1_:=am (Kd.N_drew HO_188000.out)
              have n2_:=am (qd BK183.out)
              have n3_:=am (qd BK184.out)
              have n4_:=am (qd BK187.out)
              have n5_:=am (qd BK189.out)
              have n6_:=am (pd HB.out)
              clear HO_10
              clear HO_188000
              clear BK183
              clear BK184
              clear BK187
              clear BK189
              clear HB
              have HO_10:=n0_
              have HO_188000:=n1_
              have BK183:=n2_
              have BK184:=n3_
              have BK187:=n4_
              have BK189:=n5_
              have HB:=n6_
              clear n0_ n1_ n2_ n3_ n4_ n5_ n6_
              refine rS (n:=10) (S:=fun w'=>w'.cell? ⟨gb187,0,none⟩=some (u188000)∧w'.cell? ⟨gb183,0,none⟩=some (.int .i64 a0_0)∧w'.cell? ⟨gb183,1,none⟩=some (.int .i64 a0_1)∧w'.cell? ⟨gb189,0,none⟩=some (.int .i64 ((rd_T147 l2 x41_2).f0))∧w'.cell? ⟨gb189,1,none⟩=some (.int .u8 ((rd_T147 l2 x41_2).f1))) (ds:=[9]) [(0,75),(3,78),(1,76),(2,77),(4,79),(5,0),(6,0),(7,0),(8,83),(9,0)] d3 rfl spec_RegeneratePiece.tab11 spec_RegeneratePiece.bits11 ⟨(blk_cell BK187.out 0).trans rfl,(blk_cell BK183.out 0).trans rfl,(blk_cell BK183.out 1).trans rfl,(blk_cell BK189.out 0).trans rfl,(blk_cell BK189.out 1).trans rfl⟩ (fun hHeld HT_ HW_=>?_)
              generalize w71.drew=w72 at HO_10 HO_188000 BK183 BK184 BK187 BK189 HB hHeld ⊢
              refine rR ?_
              refine rO (N:=some 80) HT_ rfl rfl d3 d8 (fun K hK=>?_)
              refine goes_ Try.func122 d3 rfl #[.agg #[.int .i64 a0_0, .int .i64 a0_1], .int .i64 ((rd_T147 l2 x41_2).f0)] d20 rfl rfl d1 ?_
              with_reducible refine (spec_l5Row.calls k2 a0_0 a0_1 ((rd_T147 l2 x41_2).f0) t192 _ A62.out).mono ?_
              rintro e w73 ⟨v193,rfl,ho0,hb⟩
              refine ⟨_,rfl,?_⟩
              have n0_:=am (Kd.R_elder' d6 (Kd.R_base ho0) hb)
              have n1_:=am (Kd.N_elder' d13 (Kd.R_base ho0) hb)
              have n2_:=am (Kd.R_lower (Kd.R_new' ho0 (Kd.R_lt d6)) (pz (by repeat (first|(with_reducible first|exact HB.out|apply pa|apply pb|apply pd|refine pt ?_ GE183.out|refine pt ?_ GE184.out|refine pt ?_ GE187.out|refine pt ?_ GE189.out)|exact HB.out))))
              have n3_:=am (qb (g:=gb183) (o:=.cells #[.int .i64 a0_0, .int .i64 a0_1] 72 (0,0)) (by (with_reducible repeat (first|refine qn ?_ _|refine qd ?_|refine qa ?_ _));exact BK183.out) hb)
              have n4_:=am (qb (g:=gb184) (o:=.cells #[.int .i64 x185000_2, .slice none 0 0] 69 (0,0)) (by (with_reducible repeat (first|refine qn ?_ _|refine qd ?_|refine qa ?_ _));exact BK184.out) hb)
              have n5_:=am (qb (g:=gb187) (o:=.cells #[u188000] 43 (0,0)) (by (with_reducible repeat (first|refine qn ?_ _|refine qd ?_|refine qa ?_ _));exact BK187.out) hb)
              have n6_:=am (qb (g:=gb189) (o:=.cells #[.int .i64 ((rd_T147 l2 x41_2).f0), .int .u8 ((rd_T147 l2 x41_2).f1)] 147 (0,0)) (by (with_reducible repeat (first|refine qn ?_ _|refine qd ?_|refine qa ?_ _));exact BK189.out) hb)
              have n7_:=am (pu (by repeat (first|(with_reducible first|exact HB.out|apply pa|apply pb|apply pd|refine pt ?_ GE183.out|refine pt ?_ GE184.out|refine pt ?_ GE187.out|refine pt ?_ GE189.out)|exact HB.out)) hb)
              clear HO_10
              clear HO_188000
              clear BK183
              clear BK184
              clear BK187
              clear BK189
              clear HB
              have HO_10:=n0_
              have HO_188000:=n1_
              have HO194:=n2_
              have BK183:=n3_
              have BK184:=n4_
              have BK187:=n5_
              have BK189:=n6_
              have HB:=n7_
              clear n0_ n1_ n2_ n3_ n4_ n5_ n6_ n7_
              (try clear hb)
              (try clear hb2)
              (try clear hk)
              (try clear hi)
              (try clear ho0)
              obtain ⟨Ao75,co75,eo75⟩:=Kd.R_slice HO194.out
              (first|subst eo75|(injection eo75 with f1_ f2_ f3_;have f4_:=f1_.symm;have f5_:=f3_.symm;clear f1_ f2_ f3_;subst f4_;subst f5_))
              refine hK.out _ _ ⟨(blk_cell BK187.out 0).trans rfl,(blk_cell BK183.out 0).trans rfl,(blk_cell BK183.out 1).trans rfl,(blk_cell BK189.out 0).trans rfl,(blk_cell BK189.out 1).trans rfl⟩ (fun hHeld=>?_)
              clear hK K
              refine rN (a':=?_) ?_ ?_
              rotate_left
              ·show Act.put _ (some 80) _=_
               simp only [Act.put,q1,q2,q3,i64_w,i32_w]
               rfl
              refine rO (N:=some 81) HT_ rfl rfl d3 d8 (fun K hK=>?_)
              refine value_ (w1:=?_) (v:=?_) d20 rfl ?_ ?_
              rotate_left 2
              ·go_simp
               constructor
               ·rfl
               rfl
              refine hK.out _ _ ⟨(blk_cell (qa BK187.out _) 0).trans rfl,(blk_cell (qa BK183.out _) 0).trans rfl,(blk_cell (qa BK183.out _) 1).trans rfl,(blk_cell (qa BK189.out _) 0).trans rfl,(blk_cell (qa BK189.out _) 1).trans rfl⟩ (fun hHeld=>?_)
              clear hK K
              refine rN (a':=?_) ?_ ?_
              rotate_left
              ·show Act.put _ (some 81) _=_
               simp only [Act.put,q1,q2,q3,i64_w,i32_w]
               rfl
              refine rO (N:=some 82) HT_ rfl rfl d3 d8 (fun K hK=>?_)
              refine Kd.N_append_step (Kd.slice 5 (Kd.int .u8)) (w0:=w) w.heap.size d20 (.tmp 76) (.tmp 81) 37 57 (.slice none 0 0) 24 rfl Try.underlying37 info57 rfl d8 d15 u188000 x188000_2 t192 [.slice Ao75 t192.length co75] (fun k_=>some k_ ≠ (u10:Value).ownBlock∧k_ ≠ gb183∧k_ ≠ gb184∧k_ ≠ gb187∧k_ ≠ gb189) (fun k_=>((fun k_=>some k_ ≠ (u10:Value).ownBlock∧k_ ≠ gb183∧k_ ≠ gb184∧k_ ≠ gb187∧k_ ≠ gb189)) k_∧some k_ ≠ (u188000:Value).ownBlock) rfl rfl ?aP (fun _ hk=>hk) ?aF ?aO ?aB ?aS ?aL ?_
              (case aP=>exact (Kd.FK_slice_mk (Kd.R_reads' (Kd.R_mono (ok':=(fun k_=>((fun k_=>some k_ ≠ (u10:Value).ownBlock∧k_ ≠ gb183∧k_ ≠ gb184∧k_ ≠ gb187∧k_ ≠ gb189)) k_∧some k_ ≠ (u188000:Value).ownBlock)) (Kd.R_types (Kd.R_types (Kd.R_types (Kd.R_types (Kd.R_apart' (HO194.out) (Kd.N_typed HO_188000.out) d8) BK183.out d8) BK184.out d8) BK187.out d8) BK189.out d8) (fun k_ hk=>⟨⟨hk.1.1.1.1.1.2,⟨hk.1.1.1.2,⟨hk.1.1.2,⟨hk.1.2,hk.2⟩⟩⟩⟩,hk.1.1.1.1.2⟩))).2.1 (Kd.R_F (Kd.R_mono (ok':=(fun k_=>((fun k_=>some k_ ≠ (u10:Value).ownBlock∧k_ ≠ gb183∧k_ ≠ gb184∧k_ ≠ gb187∧k_ ≠ gb189)) k_∧some k_ ≠ (u188000:Value).ownBlock)) (Kd.R_types (Kd.R_types (Kd.R_types (Kd.R_types (Kd.R_apart' (HO194.out) (Kd.N_typed HO_188000.out) d8) BK183.out d8) BK184.out d8) BK187.out d8) BK189.out d8) (fun k_ hk=>⟨⟨hk.1.1.1.1.1.2,⟨hk.1.1.1.2,⟨hk.1.1.2,⟨hk.1.2,hk.2⟩⟩⟩⟩,hk.1.1.1.1.2⟩)))))
              (case aB=>exact (by repeat (first|(with_reducible first|exact HB.out|apply pa|apply pb|apply pd|refine pt ?_ GE183.out|refine pt ?_ GE184.out|refine pt ?_ GE187.out|refine pt ?_ GE189.out)|exact HB.out)))
              (case aF=>exact (fun k_ hk=>⟨Kd.fresh' (Kd.R_lt d6) k_ hk,Kd.freshB (g:=gb183) (o:=.cells #[.int .i64 a0_0, .int .i64 a0_1] 72 (0,0)) (by (with_reducible repeat (first|refine qn ?_ _|refine qd ?_|refine qa ?_ _));exact BK183.out) k_ hk,Kd.freshB (g:=gb184) (o:=.cells #[.int .i64 x185000_2, .slice none 0 0] 69 (0,0)) (by (with_reducible repeat (first|refine qn ?_ _|refine qd ?_|refine qa ?_ _));exact BK184.out) k_ hk,Kd.freshB (g:=gb187) (o:=.cells #[u188000] 43 (0,0)) (by (with_reducible repeat (first|refine qn ?_ _|refine qd ?_|refine qa ?_ _));exact BK187.out) k_ hk,Kd.freshB (g:=gb189) (o:=.cells #[.int .i64 ((rd_T147 l2 x41_2).f0), .int .u8 ((rd_T147 l2 x41_2).f1)] 147 (0,0)) (by (with_reducible repeat (first|refine qn ?_ _|refine qd ?_|refine qa ?_ _));exact BK189.out) k_ hk⟩))
              (case aO=>exact d57)
              (case aS=>exact (pz (by repeat (first|(with_reducible first|exact HB.out|apply pa|apply pb|apply pd|refine pt ?_ GE183.out|refine pt ?_ GE184.out|refine pt ?_ GE187.out|refine pt ?_ GE189.out)|exact HB.out))))
              (case aL=>have:=LMc63.out;omega)
              intro v196 w74 ho hb hg hat
              rw [← Ny195.out] at ho
              have n0_:=am (Kd.R_over' d6 (Kd.N_typed d13) d8 hg)
              have n1_:=am (blk_grown (g:=gb183) (o:=.cells #[.int .i64 a0_0, .int .i64 a0_1] 72 (0,0)) (by (with_reducible repeat (first|refine qn ?_ _|refine qd ?_|refine qa ?_ _));exact BK183.out) hg (Kd.N_ne HO_188000.out BK183.out d8))
              have n2_:=am (blk_grown (g:=gb184) (o:=.cells #[.int .i64 x185000_2, .slice none 0 0] 69 (0,0)) (by (with_reducible repeat (first|refine qn ?_ _|refine qd ?_|refine qa ?_ _));exact BK184.out) hg (Kd.N_ne HO_188000.out BK184.out d8))
              have n3_:=am (blk_grown (g:=gb187) (o:=.cells #[u188000] 43 (0,0)) (by (with_reducible repeat (first|refine qn ?_ _|refine qd ?_|refine qa ?_ _));exact BK187.out) hg (Kd.N_ne HO_188000.out BK187.out d8))
              have n4_:=am (blk_grown (g:=gb189) (o:=.cells #[.int .i64 ((rd_T147 l2 x41_2).f0), .int .u8 ((rd_T147 l2 x41_2).f1)] 147 (0,0)) (by (with_reducible repeat (first|refine qn ?_ _|refine qd ?_|refine qa ?_ _));exact BK189.out) hg (Kd.N_ne HO_188000.out BK189.out d8))
              have n5_:=am (hb)
              have n6_:=am (ho)
              clear HO_10
              clear BK183
              clear BK184
              clear BK187
              clear BK189
              clear HB
              clear HO_188000
              clear HO194
              have HO_10:=n0_
              have BK183:=n1_
              have BK184:=n2_
              have BK187:=n3_
              have BK189:=n4_
              have HB:=n5_
              have HO197:=n6_
              clear n0_ n1_ n2_ n3_ n4_ n5_ n6_
              clear ho hb hg hat
              obtain ⟨Ao76,co76,eo76⟩:=Kd.N_slice HO197.out
              (first|subst eo76|(injection eo76 with f1_ f2_ f3_;have f4_:=f1_.symm;have f5_:=f3_.symm;clear f1_ f2_ f3_;subst f4_;subst f5_))
              refine hK.out _ _ ⟨(blk_cell BK187.out 0).trans rfl,(blk_cell BK183.out 0).trans rfl,(blk_cell BK183.out 1).trans rfl,(blk_cell BK189.out 0).trans rfl,(blk_cell BK189.out 1).trans rfl⟩ (fun hHeld=>?_)
              clear hK K
              refine rN (a':=?_) ?_ ?_
              rotate_left
              ·show Act.put _ (some 82) _=_
               simp only [Act.put,q1,q2,q3,i64_w,i32_w]
               rfl
              refine rR ?_
              refine rL (N:=none) HT_ rfl rfl d3 d8 (fun K hK=>?_)
              have hs77:w74.cell? ⟨gb187,0,none⟩=some (u188000):=(blk_cell BK187.out 0).trans rfl
              have hfs77:=blk_frozen BK187.out 0
              have hns77_0:=NB183_187.out
              have hns77_1:=NB184_187.out
              have hns77_3:=NB189_187.out
              have hms77_0:=NB187_183.out
              have hms77_1:=NB187_184.out
              have hms77_3:=NB187_189.out
              refine skip_ (w1:=?_) d20 rfl ?_ ?_
              rotate_left
              ·go_simp
               rfl
              refine hK.out _ _ ?_
              clear hK K
              refine rD HT_ d3 ?_
              have hcz78_0:w74.cell? ⟨gb189,0,none⟩=some (.int .i64 ((rd_T147 l2 x41_2).f0)):=(blk_cell BK189.out 0).trans rfl
              have hcz78_1:w74.cell? ⟨gb189,1,none⟩=some (.int .u8 ((rd_T147 l2 x41_2).f1)):=(blk_cell BK189.out 1).trans rfl
              have hfz78_0:=blk_frozen BK189.out 0
              have hfz78_1:=blk_frozen BK189.out 1
              try go_wp2_with (first|((with_reducible refine gate_builtin (b:=.append) (xs:=#[.tmp 84, .tmp 87]) rfl ?_);(try (refine gate_guard d20 ?_;dsimp only));at_builtin;refine Kd.R_append (Kd.int .u8) (w0:=w) w.heap.size rfl (.tmp 84) (.tmp 87) 57 5 (.int .u8 0) 1 rfl Try.underlying57 info5 rfl d8 d15 u10 x10_2 ((rd_T147 l2 x41_2).f1) [.int .u8 ((rd_T147 l2 x41_2).f1)] (fun _=>True) (fun _=>False) rfl (by first|(go_simp;done)|(go_simp;rfl)) ?aP (fun _ hk=>hk.elim) ?aF ?aO ?aB ?aS ?aL ?_;(case aP=>exact rfl);(case aB=>exact (by repeat (first|(with_reducible first|exact HB.out|apply pa|apply pb|apply pd|refine pt ?_ GE183.out|refine pt ?_ GE184.out|refine pt ?_ GE187.out|refine pt ?_ GE189.out)|exact HB.out)));(case aF=>exact (fun _ _=>trivial));(case aO=>exact (by (with_reducible repeat (first|apply Kd.R_alloc|apply Kd.R_drewN|apply Kd.R_drew));exact Kd.R_mono (Kd.R_far (p:=⟨gb187,0,none⟩) (Kd.R_types HO_10.out BK187.out d8) (fun _ hk=>hk.2) (.slice Ao76 y195.length co76)) (fun _ hk=>trivial)));(case aS=>exact (pz (by repeat (first|(with_reducible first|exact HB.out|apply pa|apply pb|apply pd|refine pt ?_ GE183.out|refine pt ?_ GE184.out|refine pt ?_ GE187.out|refine pt ?_ GE189.out)|exact HB.out))));(case aL=>have:=LMc64.out;omega);intro v199 w79 ho hb hg hat;rw [← Ny198.out] at ho;have n0_:=am (blk_grown (g:=gb183) (o:=.cells #[.int .i64 a0_0, .int .i64 a0_1] 72 (0,0)) (by (with_reducible repeat (first|refine qn ?_ _|refine qd ?_|refine qa ?_ _));refine blk_far ?_ NB183_187.out _;(with_reducible repeat (first|refine qn ?_ _|refine qd ?_|refine qa ?_ _));exact BK183.out) hg (Kd.R_ne HO_10.out BK183.out d8));have n1_:=am (blk_grown (g:=gb184) (o:=.cells #[.int .i64 x185000_2, .slice none 0 0] 69 (0,0)) (by (with_reducible repeat (first|refine qn ?_ _|refine qd ?_|refine qa ?_ _));refine blk_far ?_ NB184_187.out _;(with_reducible repeat (first|refine qn ?_ _|refine qd ?_|refine qa ?_ _));exact BK184.out) hg (Kd.R_ne HO_10.out BK184.out d8));have n2_:=am (blk_grown (g:=gb187) (o:=.cells #[.slice Ao76 y195.length co76] 43 (0,0)) (by (with_reducible repeat (first|refine qn ?_ _|refine qd ?_|refine qa ?_ _));refine blk_put (cs:=#[u188000]) ?_ 0 _ rfl;(with_reducible repeat (first|refine qn ?_ _|refine qd ?_|refine qa ?_ _));exact BK187.out) hg (Kd.R_ne HO_10.out BK187.out d8));have n3_:=am (blk_grown (g:=gb189) (o:=.cells #[.int .i64 ((rd_T147 l2 x41_2).f0), .int .u8 ((rd_T147 l2 x41_2).f1)] 147 (0,0)) (by (with_reducible repeat (first|refine qn ?_ _|refine qd ?_|refine qa ?_ _));refine blk_far ?_ NB189_187.out _;(with_reducible repeat (first|refine qn ?_ _|refine qd ?_|refine qa ?_ _));exact BK189.out) hg (Kd.R_ne HO_10.out BK189.out d8));have n4_:=am (Kd.N_afterv (ok:=(fun k_=>k_ ≠ gb183∧k_ ≠ gb184∧k_ ≠ gb187∧k_ ≠ gb189)) (by (with_reducible repeat (first|apply Kd.N_alloc|apply Kd.N_drewN|apply Kd.N_drew));exact Kd.N_mono (Kd.N_far (p:=⟨gb187,0,none⟩) (Kd.N_mono HO197.out (fun k_ hk=>(⟨hk,hk.2.2.2.1⟩:_∧k_ ≠ gb187))) (fun _ hk=>hk.2) (.slice Ao76 y195.length co76)) (fun _ hk=>⟨⟨hk.1.2.1,⟨hk.1.2.2.1,⟨hk.1.2.2.2.1,hk.1.2.2.2.2⟩⟩⟩,hk.1.1⟩)) hg hat);have n5_:=am (hb);have n6_:=am (ho);clear BK183;clear BK184;clear BK187;clear BK189;clear HO197;clear HB;clear HO_10;have BK183:=n0_;have BK184:=n1_;have BK187:=n2_;have BK189:=n3_;have HO197:=n4_;have HB:=n5_;have HO200:=n6_;clear n0_ n1_ n2_ n3_ n4_ n5_ n6_;clear ho hb hg hat))
              go_roundg k2
              case measure=>have:=HJ3.out;have:=HK2.out;omega
              case rel=>exact ⟨(y198),(wrap64 (x41_2+1)),(x185000_2),(y195),(.slice Ao76 y195.length co76),d4,H',⟨by have:=HJ3.out;have:=HK2.out;omega⟩,⟨by (with_reducible repeat (first|apply Kd.R_alloc|apply Kd.R_drewN|apply Kd.R_drew));exact HO200.out⟩,⟨by (with_reducible repeat (first|apply Kd.N_alloc|apply Kd.N_drewN|apply Kd.N_drew));exact Kd.N_mono HO197.out (fun _ hk=>⟨hk.2,⟨hk.1.1,⟨hk.1.2.1,hk.1.2.2.1⟩⟩⟩)⟩,⟨by (with_reducible repeat (first|refine qn ?_ _|refine qd ?_|refine qa ?_ _));exact BK183.out⟩,⟨by (with_reducible repeat (first|refine qn ?_ _|refine qd ?_|refine qa ?_ _));exact BK184.out⟩,⟨by (with_reducible repeat (first|refine qn ?_ _|refine qd ?_|refine qa ?_ _));exact BK187.out⟩,⟨by repeat (first|(with_reducible first|exact HB.out|apply pa|apply pb|apply pd|refine pt ?_ GE183.out|refine pt ?_ GE184.out|refine pt ?_ GE187.out|refine pt ?_ GE189.out)|exact HB.out)⟩⟩
             rw [if_neg c64] at H
             exact absurd H d31
            rw [if_neg c63] at H
            exact absurd H d31
           rw [if_neg c50] at H
           exact absurd H d31
          rw [if_neg c49] at H
          exact absurd H d31
         rw [if_neg c47] at H
         have c47b0:decide (0 < x41_2)=false:=decide_eq_false c47
         clear c47
         replace H:=Option.bind_eq_some_iff.mp H
         obtain ⟨t201,A800,H⟩:=H
         replace H:(if x188000_2.length < 5864062014805 then (if x10_2.length < 140737488355328 then (spec_RegeneratePiece.l0 k2 a1 l2 (wrap64 (a0_1 - 1)) (x10_2 ++ [(rd_T147 l2 x41_2).f1]) l2 (l2.length:Int) (wrap64 (x41_2+1)) a0_0 a0_1 (x188000_2 ++ [t201])) else (none)) else (none))=some (r1,r2,r3):=H
         have A80:=am A800
         clear A800
         by_cases c81:x188000_2.length < 5864062014805
         ·rw [if_pos c81] at H
          have LMc81:=am c81
          clear c81
          obtain ⟨y204,hy204⟩:∃ y_:List (List Int),y_=(x188000_2 ++ [t201]):=⟨_,rfl⟩
          replace H:(if x10_2.length < 140737488355328 then (spec_RegeneratePiece.l0 k2 a1 l2 (wrap64 (a0_1 - 1)) (x10_2 ++ [(rd_T147 l2 x41_2).f1]) l2 (l2.length:Int) (wrap64 (x41_2+1)) a0_0 a0_1 y204) else (none))=some (r1,r2,r3):=by first|(rw [hy204];with_reducible exact H)|(have H2_:=(Option.bind_some _ _).symm.trans H;rw [hy204];with_reducible exact H2_)|(have H2_:=(Option.bind_some _ _).symm.trans H;with_reducible exact H2_)|with_reducible exact H|(rw [hy204];exact H)|exact H
          have Ny204:=am hy204
          clear hy204
          by_cases c82:x10_2.length < 140737488355328
          ·rw [if_pos c82] at H
           have LMc82:=am c82
           clear c82
           obtain ⟨y207,hy207⟩:∃ y_:List Int,y_=(x10_2 ++ [(rd_T147 l2 x41_2).f1]):=⟨_,rfl⟩
           replace H:(spec_RegeneratePiece.l0 k2 a1 l2 (wrap64 (a0_1 - 1)) y207 l2 (l2.length:Int) (wrap64 (x41_2+1)) a0_0 a0_1 y204)=some (r1,r2,r3):=by first|(rw [hy207];with_reducible exact H)|(have H2_:=(Option.bind_some _ _).symm.trans H;rw [hy207];with_reducible exact H2_)|(have H2_:=(Option.bind_some _ _).symm.trans H;with_reducible exact H2_)|with_reducible exact H|(rw [hy207];exact H)|exact H
           have Ny207:=am hy207
           clear hy207
           have H':=am H
           clear H
           have p188:0≤(x41_2:Int):=od d2
           have q188:x41_2 < (l2.length:Int):=od d2
           obtain ⟨ad188,e188,hx188_0,hx188_1⟩:=at_T147 HR2.out x41_2 p188 q188
           cases e188
           replace hx188_0:=(HB.out.cell (World.block_lt_of_cell? w _ hx188_0)).trans hx188_0
           replace hx188_1:=(HB.out.cell (World.block_lt_of_cell? w _ hx188_1)).trans hx188_1
           replace p188:=eq_true p188
           replace q188:=eq_true q188
           try go_wp2_with (first|((with_reducible refine gate_dst (N:=12) rfl ?_);(try (refine gate_guard d20 ?_;dsimp only));refine box_event ?hg (N:=12) ?hd (cs:=#[.int .i64 0, .int .u8 0]) (t:=147) ?hr ?_;(case hd=>rfl);(case hg=>rfl);(case hr=>first|(go_simp;done)|(go_simp;rfl));intro gb189 hg w83 hbox hb;have n0_:=am (Kd.R_below d6 hb);have n1_:=am (Kd.N_below (Kd.N_elderB d13 gb189 (Nat.le_of_eq hg.symm)) hb);have n2_:=am (qb (g:=gb183) (o:=.cells #[.int .i64 a0_0, .int .i64 a0_1] 72 (0,0)) (by (with_reducible repeat (first|refine qn ?_ _|refine qd ?_|refine qa ?_ _));exact BK183.out) hb);have n3_:=am (qb (g:=gb184) (o:=.cells #[.int .i64 x185000_2, .slice none 0 0] 69 (0,0)) (by (with_reducible repeat (first|refine qn ?_ _|refine qd ?_|refine qa ?_ _));exact BK184.out) hb);have n4_:=am (qb (g:=gb187) (o:=.cells #[u188000] 43 (0,0)) (by (with_reducible repeat (first|refine qn ?_ _|refine qd ?_|refine qa ?_ _));exact BK187.out) hb);have n5_:=am (pu (by repeat (first|(with_reducible first|exact HB.out|apply pa|apply pb|apply pd|refine pt ?_ GE183.out|refine pt ?_ GE184.out|refine pt ?_ GE187.out)|exact HB.out)) hb);have n6_:=am (hbox);have n7_:=am ((by rw [hg];exact (pz (by repeat (first|(with_reducible first|exact HB.out|apply pa|apply pb|apply pd|refine pt ?_ GE183.out|refine pt ?_ GE184.out|refine pt ?_ GE187.out)|exact HB.out))):w.heap.size≤gb189));have n8_:=n7_;have n9_:=am ((by rw [hg];exact Nat.ne_of_lt (blk_lt (g:=gb183) (o:=.cells #[.int .i64 a0_0, .int .i64 a0_1] 72 (0,0)) (by (with_reducible repeat (first|refine qn ?_ _|refine qd ?_|refine qa ?_ _));exact BK183.out)):gb183 ≠ gb189));have n10_:=am ((by rw [hg];exact Nat.ne_of_gt (blk_lt (g:=gb183) (o:=.cells #[.int .i64 a0_0, .int .i64 a0_1] 72 (0,0)) (by (with_reducible repeat (first|refine qn ?_ _|refine qd ?_|refine qa ?_ _));exact BK183.out)):gb189 ≠ gb183));have n11_:=am ((by rw [hg];exact Nat.ne_of_lt (blk_lt (g:=gb184) (o:=.cells #[.int .i64 x185000_2, .slice none 0 0] 69 (0,0)) (by (with_reducible repeat (first|refine qn ?_ _|refine qd ?_|refine qa ?_ _));exact BK184.out)):gb184 ≠ gb189));have n12_:=am ((by rw [hg];exact Nat.ne_of_gt (blk_lt (g:=gb184) (o:=.cells #[.int .i64 x185000_2, .slice none 0 0] 69 (0,0)) (by (with_reducible repeat (first|refine qn ?_ _|refine qd ?_|refine qa ?_ _));exact BK184.out)):gb189 ≠ gb184));have n13_:=am ((by rw [hg];exact Nat.ne_of_lt (blk_lt (g:=gb187) (o:=.cells #[u188000] 43 (0,0)) (by (with_reducible repeat (first|refine qn ?_ _|refine qd ?_|refine qa ?_ _));exact BK187.out)):gb187 ≠ gb189));have n14_:=am ((by rw [hg];exact Nat.ne_of_gt (blk_lt (g:=gb187) (o:=.cells #[u188000] 43 (0,0)) (by (with_reducible repeat (first|refine qn ?_ _|refine qd ?_|refine qa ?_ _));exact BK187.out)):gb189 ≠ gb187));clear HO_10;clear HO_188000;clear BK183;clear BK184;clear BK187;clear HB;have HO_10:=n0_;have HO_188000:=n1_;have BK183:=n2_;have BK184:=n3_;have BK187:=n4_;have HB:=n5_;have BK189:=n6_;have GW189:=n7_;have GE189:=n8_;have NB183_189:=n9_;have NB189_183:=n10_;have NB184_189:=n11_;have NB189_184:=n12_;have NB187_189:=n13_;have NB189_187:=n14_;clear n0_ n1_ n2_ n3_ n4_ n5_ n6_ n7_ n8_ n9_ n10_ n11_ n12_ n13_ n14_;clear hb hbox hg;have hnb84:=NB189_183.out;have hnc84:=NB183_189.out;have hnb85:=NB189_184.out;have hnc85:=NB184_189.out;have hnb86:=NB189_187.out;have hnc86:=NB187_189.out;have hcz87_0:w83.cell? ⟨gb189,0,none⟩=some (.int .i64 0):=(blk_cell BK189.out 0).trans rfl;have hcz87_1:w83.cell? ⟨gb189,1,none⟩=some (.int .u8 0):=(blk_cell BK189.out 1).trans rfl;have hfz87_0:=blk_frozen BK189.out 0;have hfz87_1:=blk_frozen BK189.out 1))
           have n0_:Aside0 (Kd.R (Kd.int .u8) 5 ((w83.setCell ⟨gb189,0,none⟩ (.int .i64 ((rd_T147 l2 x41_2).f0))).setCell ⟨gb189,1,none⟩ (.int .u8 ((rd_T147 l2 x41_2).f1))) w.heap.size (fun _=>True) u10 x10_2):=⟨d17⟩
           have n1_:Aside0 (Kd.N (Kd.slice 5 (Kd.int .u8)) 57 ((w83.setCell ⟨gb189,0,none⟩ (.int .i64 ((rd_T147 l2 x41_2).f0))).setCell ⟨gb189,1,none⟩ (.int .u8 ((rd_T147 l2 x41_2).f1))) w.heap.size (fun k_=>some k_ ≠ (u10:Value).ownBlock∧k_ ≠ gb183∧k_ ≠ gb184∧k_ ≠ gb187∧k_ ≠ gb189) u188000 x188000_2):=⟨d16⟩
           have n2_:Aside0 (((w83.setCell ⟨gb189,0,none⟩ (.int .i64 ((rd_T147 l2 x41_2).f0))).setCell ⟨gb189,1,none⟩ (.int .u8 ((rd_T147 l2 x41_2).f1))).heap[gb183]? = some (.cells #[.int .i64 a0_0, .int .i64 a0_1] 72 (0,0))):=⟨by (with_reducible repeat (first|refine qn ?_ _|refine qd ?_|refine qa ?_ _));refine blk_far ?_ NB183_189.out _;(with_reducible repeat (first|refine qn ?_ _|refine qd ?_|refine qa ?_ _));refine blk_far ?_ NB183_189.out _;(with_reducible repeat (first|refine qn ?_ _|refine qd ?_|refine qa ?_ _));exact BK183.out⟩
           have n3_:Aside0 (((w83.setCell ⟨gb189,0,none⟩ (.int .i64 ((rd_T147 l2 x41_2).f0))).setCell ⟨gb189,1,none⟩ (.int .u8 ((rd_T147 l2 x41_2).f1))).heap[gb184]? = some (.cells #[.int .i64 x185000_2, .slice none 0 0] 69 (0,0))):=⟨by (with_reducible repeat (first|refine qn ?_ _|refine qd ?_|refine qa ?_ _));refine blk_far ?_ NB184_189.out _;(with_reducible repeat (first|refine qn ?_ _|refine qd ?_|refine qa ?_ _));refine blk_far ?_ NB184_189.out _;(with_reducible repeat (first|refine qn ?_ _|refine qd ?_|refine qa ?_ _));exact BK184.out⟩
           have n4_:Aside0 (((w83.setCell ⟨gb189,0,none⟩ (.int .i64 ((rd_T147 l2 x41_2).f0))).setCell ⟨gb189,1,none⟩ (.int .u8 ((rd_T147 l2 x41_2).f1))).heap[gb187]? = some (.cells #[u188000] 43 (0,0))):=⟨by (with_reducible repeat (first|refine qn ?_ _|refine qd ?_|refine qa ?_ _));refine blk_far ?_ NB187_189.out _;(with_reducible repeat (first|refine qn ?_ _|refine qd ?_|refine qa ?_ _));refine blk_far ?_ NB187_189.out _;(with_reducible repeat (first|refine qn ?_ _|refine qd ?_|refine qa ?_ _));exact BK187.out⟩
           have n5_:Aside0 (((w83.setCell ⟨gb189,0,none⟩ (.int .i64 ((rd_T147 l2 x41_2).f0))).setCell ⟨gb189,1,none⟩ (.int .u8 ((rd_T147 l2 x41_2).f1))).heap[gb189]? = some (.cells #[.int .i64 ((rd_T147 l2 x41_2).f0), .int .u8 ((rd_T147 l2 x41_2).f1)] 147 (0,0))):=⟨by (with_reducible repeat (first|refine qn ?_ _|refine qd ?_|refine qa ?_ _));refine blk_put (cs:=#[.int .i64 ((rd_T147 l2 x41_2).f0), .int .u8 0]) ?_ 1 _ rfl;(with_reducible repeat (first|refine qn ?_ _|refine qd ?_|refine qa ?_ _));refine blk_put (cs:=#[.int .i64 0, .int .u8 0]) ?_ 0 _ rfl;(with_reducible repeat (first|refine qn ?_ _|refine qd ?_|refine qa ?_ _));exact BK189.out⟩
           have n6_:Aside0 (Below w.heap.size w ((w83.setCell ⟨gb189,0,none⟩ (.int .i64 ((rd_T147 l2 x41_2).f0))).setCell ⟨gb189,1,none⟩ (.int .u8 ((rd_T147 l2 x41_2).f1)))):=⟨by repeat (first|(with_reducible first|exact HB.out|apply pa|apply pb|apply pd|refine pt ?_ GE183.out|refine pt ?_ GE184.out|refine pt ?_ GE187.out|refine pt ?_ GE189.out)|exact HB.out)⟩
           (try clear HO_10)
           (try clear HO_188000)
           (try clear BK183)
           (try clear BK184)
           (try clear BK187)
           (try clear BK189)
           (try clear HB)
           generalize ((w83.setCell ⟨gb189,0,none⟩ (.int .i64 ((rd_T147 l2 x41_2).f0))).setCell ⟨gb189,1,none⟩ (.int .u8 ((rd_T147 l2 x41_2).f1)))=w88 at n0_ n1_ n2_ n3_ n4_ n5_ n6_ ⊢
           have HO_10:=n0_
           have HO_188000:=n1_
           have BK183:=n2_
           have BK184:=n3_
           have BK187:=n4_
           have BK189:=n5_
           have HB:=n6_
           clear n0_ n1_ n2_ n3_ n4_ n5_ n6_
           have n0_:=am (Kd.R_drew HO_10.out)
           have n1_:=am (Kd.N_drew HO_188000.out)
           have n2_:=am (qd BK183.out)
           have n3_:=am (qd BK184.out)
           have n4_:=am (qd BK187.out)
           have n5_:=am (qd BK189.out)
           have n6_:=am (pd HB.out)
           clear HO_10
           clear HO_188000
           clear BK183
           clear BK184
           clear BK187
           clear BK189
           clear HB
           have HO_10:=n0_
           have HO_188000:=n1_
           have BK183:=n2_
           have BK184:=n3_
           have BK187:=n4_
           have BK189:=n5_
           have HB:=n6_
           clear n0_ n1_ n2_ n3_ n4_ n5_ n6_
           refine rS (n:=28) (S:=fun w'=>w'.cell? ⟨gb189,0,none⟩=some (.int .i64 ((rd_T147 l2 x41_2).f0))∧w'.cell? ⟨gb189,1,none⟩=some (.int .u8 ((rd_T147 l2 x41_2).f1))∧w'.cell? ⟨gb183,0,none⟩=some (.int .i64 a0_0)∧w'.cell? ⟨gb183,1,none⟩=some (.int .i64 a0_1)) (ds:=[]) [(0,46),(2,48),(1,47),(3,49),(4,50),(5,0),(6,52),(7,53),(8,54),(10,56),(9,55),(11,57),(12,58),(13,59),(14,60),(15,61),(16,62),(17,63),(18,64),(19,65),(20,66),(21,67),(22,68),(23,69),(24,70),(25,71),(26,72),(27,73)] d3 rfl spec_RegeneratePiece.tab9 spec_RegeneratePiece.bits9 ⟨(blk_cell BK189.out 0).trans rfl,(blk_cell BK189.out 1).trans rfl,(blk_cell BK183.out 0).trans rfl,(blk_cell BK183.out 1).trans rfl⟩ (fun hHeld HT_ HW_=>?_)
           generalize w88.drew=w89 at HO_10 HO_188000 BK183 BK184 BK187 BK189 HB hHeld ⊢
           refine rR ?_
           refine rO (N:=some 51) HT_ rfl rfl d3 d8 (fun K hK=>?_)
           refine goes_ Try.func121 d3 rfl #[.int .i64 ((rd_T147 l2 x41_2).f0), .int .i64 0, .int .i64 (wrap64 (a0_0 - 1))] d20 rfl rfl d1 ?_
           with_reducible refine (spec_l1In.calls ((rd_T147 l2 x41_2).f0) 0 (wrap64 (a0_0 - 1)) true _ A34.out).mono ?_
           rintro e w' ⟨rfl,⟨nd,rfl⟩⟩
           refine ⟨_,rfl,?_⟩
           refine hK.out _ _ ⟨(blk_cell BK189.out 0).trans rfl,(blk_cell BK189.out 1).trans rfl,(blk_cell BK183.out 0).trans rfl,(blk_cell BK183.out 1).trans rfl⟩ (fun hHeld=>?_)
           clear hK K
           refine rN (a':=?_) ?_ ?_
           rotate_left
           ·show Act.put _ (some 51) _=_
            simp only [Act.put,q1,q2,q3,i64_w,i32_w]
            rfl
           refine rR ?_
           refine rD HT_ d3 ?_
           try go_wp2
           (try (rw [drewN_self w89];generalize hq_:World.drewN w89 _=w89;have n0_:Aside0 (Kd.R (Kd.int .u8) 5 w89 w.heap.size (fun _=>True) u10 x10_2):=⟨by rw [← hq_];exact d6⟩;have n1_:Aside0 (Kd.N (Kd.slice 5 (Kd.int .u8)) 57 w89 w.heap.size (fun k_=>some k_ ≠ (u10:Value).ownBlock∧k_ ≠ gb183∧k_ ≠ gb184∧k_ ≠ gb187∧k_ ≠ gb189) u188000 x188000_2):=⟨by rw [← hq_];exact d13⟩;have n2_:Aside0 (w89.heap[gb183]? = some (.cells #[.int .i64 a0_0, .int .i64 a0_1] 72 (0,0))):=⟨by rw [← hq_];exact (by (with_reducible repeat (first|refine qn ?_ _|refine qd ?_|refine qa ?_ _));exact BK183.out)⟩;have n3_:Aside0 (w89.heap[gb184]? = some (.cells #[.int .i64 x185000_2, .slice none 0 0] 69 (0,0))):=⟨by rw [← hq_];exact (by (with_reducible repeat (first|refine qn ?_ _|refine qd ?_|refine qa ?_ _));exact BK184.out)⟩;have n4_:Aside0 (w89.heap[gb187]? = some (.cells #[u188000] 43 (0,0))):=⟨by rw [← hq_];exact (by (with_reducible repeat (first|refine qn ?_ _|refine qd ?_|refine qa ?_ _));exact BK187.out)⟩;have n5_:Aside0 (w89.heap[gb189]? = some (.cells #[.int .i64 ((rd_T147 l2 x41_2).f0), .int .u8 ((rd_T147 l2 x41_2).f1)] 147 (0,0))):=⟨by rw [← hq_];exact (by (with_reducible repeat (first|refine qn ?_ _|refine qd ?_|refine qa ?_ _));exact BK189.out)⟩;have n6_:Aside0 (Below w.heap.size w w89):=⟨by rw [← hq_];exact (by repeat (first|(with_reducible first|exact HB.out|apply pa|apply pb|apply pd|refine pt ?_ GE183.out|refine pt ?_ GE184.out|refine pt ?_ GE187.out|refine pt ?_ GE189.out)|exact HB.out))⟩;clear HO_10 HO_188000 BK183 BK184 BK187 BK189 HB hq_;have HO_10:=n0_;have HO_188000:=n1_;have BK183:=n2_;have BK184:=n3_;have BK187:=n4_;have BK189:=n5_;have HB:=n6_;clear n0_ n1_ n2_ n3_ n4_ n5_ n6_))
           have n0_:=am (Kd.R_drew HO_10.out)
           have n1_:=am (Kd.N_drew HO_188000.out)
           have n2_:=am (qd BK183.out)
           have n3_:=am (qd BK184.out)
           have n4_:=am (qd BK187.out)
           have n5_:=am (qd BK189.out)
           have n6_:=am (pd HB.out)
           clear HO_10
           clear HO_188000
           clear BK183
           clear BK184
           clear BK187
           clear BK189
           clear HB
           have HO_10:=n0_
           have HO_188000:=n1_
           have BK183:=n2_
           have BK184:=n3_
           have BK187:=n4_
           have BK189:=n5_
           have HB:=n6_
           clear n0_ n1_ n2_ n3_ n4_ n5_ n6_
           refine rS (n:=10) (S:=fun w'=>w'.cell? ⟨gb187,0,none⟩=some (u188000)∧w'.cell? ⟨gb183,0,none⟩=some (.int .i64 a0_0)∧w'.cell? ⟨gb183,1,none⟩=some (.int .i64 a0_1)∧w'.cell? ⟨gb189,0,none⟩=some (.int .i64 ((rd_T147 l2 x41_2).f0))∧w'.cell? ⟨gb189,1,none⟩=some (.int .u8 ((rd_T147 l2 x41_2).f1))) (ds:=[9]) [(0,75),(3,78),(1,76),(2,77),(4,79),(5,0),(6,0),(7,0),(8,83),(9,0)] d3 rfl spec_RegeneratePiece.tab11 spec_RegeneratePiece.bits11 ⟨(blk_cell BK187.out 0).trans rfl,(blk_cell BK183.out 0).trans rfl,(blk_cell BK183.out 1).trans rfl,(blk_cell BK189.out 0).trans rfl,(blk_cell BK189.out 1).trans rfl⟩ (fun hHeld HT_ HW_=>?_)
           generalize w89.drew=w90 at HO_10 HO_188000 BK183 BK184 BK187 BK189 HB hHeld ⊢
           refine rR ?_
           refine rO (N:=some 80) HT_ rfl rfl d3 d8 (fun K hK=>?_)
           refine goes_ Try.func122 d3 rfl #[.agg #[.int .i64 a0_0, .int .i64 a0_1], .int .i64 ((rd_T147 l2 x41_2).f0)] d20 rfl rfl d1 ?_
           with_reducible refine (spec_l5Row.calls k2 a0_0 a0_1 ((rd_T147 l2 x41_2).f0) t201 _ A80.out).mono ?_
           rintro e w91 ⟨v202,rfl,ho0,hb⟩
           refine ⟨_,rfl,?_⟩
           have n0_:=am (Kd.R_elder' d6 (Kd.R_base ho0) hb)
           have n1_:=am (Kd.N_elder' d13 (Kd.R_base ho0) hb)
           have n2_:=am (Kd.R_lower (Kd.R_new' ho0 (Kd.R_lt d6)) (pz (by repeat (first|(with_reducible first|exact HB.out|apply pa|apply pb|apply pd|refine pt ?_ GE183.out|refine pt ?_ GE184.out|refine pt ?_ GE187.out|refine pt ?_ GE189.out)|exact HB.out))))
           have n3_:=am (qb (g:=gb183) (o:=.cells #[.int .i64 a0_0, .int .i64 a0_1] 72 (0,0)) (by (with_reducible repeat (first|refine qn ?_ _|refine qd ?_|refine qa ?_ _));exact BK183.out) hb)
           have n4_:=am (qb (g:=gb184) (o:=.cells #[.int .i64 x185000_2, .slice none 0 0] 69 (0,0)) (by (with_reducible repeat (first|refine qn ?_ _|refine qd ?_|refine qa ?_ _));exact BK184.out) hb)
           have n5_:=am (qb (g:=gb187) (o:=.cells #[u188000] 43 (0,0)) (by (with_reducible repeat (first|refine qn ?_ _|refine qd ?_|refine qa ?_ _));exact BK187.out) hb)
           have n6_:=am (qb (g:=gb189) (o:=.cells #[.int .i64 ((rd_T147 l2 x41_2).f0), .int .u8 ((rd_T147 l2 x41_2).f1)] 147 (0,0)) (by (with_reducible repeat (first|refine qn ?_ _|refine qd ?_|refine qa ?_ _));exact BK189.out) hb)
           have n7_:=am (pu (by repeat (first|(with_reducible first|exact HB.out|apply pa|apply pb|apply pd|refine pt ?_ GE183.out|refine pt ?_ GE184.out|refine pt ?_ GE187.out|refine pt ?_ GE189.out)|exact HB.out)) hb)
           clear HO_10
           clear HO_188000
           clear BK183
           clear BK184
           clear BK187
           clear BK189
           clear HB
           have HO_10:=n0_
           have HO_188000:=n1_
           have HO203:=n2_
           have BK183:=n3_
           have BK184:=n4_
           have BK187:=n5_
           have BK189:=n6_
           have HB:=n7_
           clear n0_ n1_ n2_ n3_ n4_ n5_ n6_ n7_
           (try clear hb)
           (try clear hb2)
           (try clear hk)
           (try clear hi)
           (try clear ho0)
           obtain ⟨Ao93,co93,eo93⟩:=Kd.R_slice HO203.out
           (first|subst eo93|(injection eo93 with f1_ f2_ f3_;have f4_:=f1_.symm;have f5_:=f3_.symm;clear f1_ f2_ f3_;subst f4_;subst f5_))
           refine hK.out _ _ ⟨(blk_cell BK187.out 0).trans rfl,(blk_cell BK183.out 0).trans rfl,(blk_cell BK183.out 1).trans rfl,(blk_cell BK189.out 0).trans rfl,(blk_cell BK189.out 1).trans rfl⟩ (fun hHeld=>?_)
           clear hK K
           refine rN (a':=?_) ?_ ?_
           rotate_left
           ·show Act.put _ (some 80) _=_
            simp only [Act.put,q1,q2,q3,i64_w,i32_w]
            rfl
           refine rO (N:=some 81) HT_ rfl rfl d3 d8 (fun K hK=>?_)
           refine value_ (w1:=?_) (v:=?_) d20 rfl ?_ ?_
           rotate_left 2
           ·go_simp
            constructor
            ·rfl
            rfl
           refine hK.out _ _ ⟨(blk_cell (qa BK187.out _) 0).trans rfl,(blk_cell (qa BK183.out _) 0).trans rfl,(blk_cell (qa BK183.out _) 1).trans rfl,(blk_cell (qa BK189.out _) 0).trans rfl,(blk_cell (qa BK189.out _) 1).trans rfl⟩ (fun hHeld=>?_)
           clear hK K
           refine rN (a':=?_) ?_ ?_
           rotate_left
           ·show Act.put _ (some 81) _=_
            simp only [Act.put,q1,q2,q3,i64_w,i32_w]
            rfl
           refine rO (N:=some 82) HT_ rfl rfl d3 d8 (fun K hK=>?_)
           refine Kd.N_append_step (Kd.slice 5 (Kd.int .u8)) (w0:=w) w.heap.size d20 (.tmp 76) (.tmp 81) 37 57 (.slice none 0 0) 24 rfl Try.underlying37 info57 rfl d8 d15 u188000 x188000_2 t201 [.slice Ao93 t201.length co93] (fun k_=>some k_ ≠ (u10:Value).ownBlock∧k_ ≠ gb183∧k_ ≠ gb184∧k_ ≠ gb187∧k_ ≠ gb189) (fun k_=>((fun k_=>some k_ ≠ (u10:Value).ownBlock∧k_ ≠ gb183∧k_ ≠ gb184∧k_ ≠ gb187∧k_ ≠ gb189)) k_∧some k_ ≠ (u188000:Value).ownBlock) rfl rfl ?aP (fun _ hk=>hk) ?aF ?aO ?aB ?aS ?aL ?_
           (case aP=>exact (Kd.FK_slice_mk (Kd.R_reads' (Kd.R_mono (ok':=(fun k_=>((fun k_=>some k_ ≠ (u10:Value).ownBlock∧k_ ≠ gb183∧k_ ≠ gb184∧k_ ≠ gb187∧k_ ≠ gb189)) k_∧some k_ ≠ (u188000:Value).ownBlock)) (Kd.R_types (Kd.R_types (Kd.R_types (Kd.R_types (Kd.R_apart' (HO203.out) (Kd.N_typed HO_188000.out) d8) BK183.out d8) BK184.out d8) BK187.out d8) BK189.out d8) (fun k_ hk=>⟨⟨hk.1.1.1.1.1.2,⟨hk.1.1.1.2,⟨hk.1.1.2,⟨hk.1.2,hk.2⟩⟩⟩⟩,hk.1.1.1.1.2⟩))).2.1 (Kd.R_F (Kd.R_mono (ok':=(fun k_=>((fun k_=>some k_ ≠ (u10:Value).ownBlock∧k_ ≠ gb183∧k_ ≠ gb184∧k_ ≠ gb187∧k_ ≠ gb189)) k_∧some k_ ≠ (u188000:Value).ownBlock)) (Kd.R_types (Kd.R_types (Kd.R_types (Kd.R_types (Kd.R_apart' (HO203.out) (Kd.N_typed HO_188000.out) d8) BK183.out d8) BK184.out d8) BK187.out d8) BK189.out d8) (fun k_ hk=>⟨⟨hk.1.1.1.1.1.2,⟨hk.1.1.1.2,⟨hk.1.1.2,⟨hk.1.2,hk.2⟩⟩⟩⟩,hk.1.1.1.1.2⟩)))))
           (case aB=>exact (by repeat (first|(with_reducible first|exact HB.out|apply pa|apply pb|apply pd|refine pt ?_ GE183.out|refine pt ?_ GE184.out|refine pt ?_ GE187.out|refine pt ?_ GE189.out)|exact HB.out)))
           (case aF=>exact (fun k_ hk=>⟨Kd.fresh' (Kd.R_lt d6) k_ hk,Kd.freshB (g:=gb183) (o:=.cells #[.int .i64 a0_0, .int .i64 a0_1] 72 (0,0)) (by (with_reducible repeat (first|refine qn ?_ _|refine qd ?_|refine qa ?_ _));exact BK183.out) k_ hk,Kd.freshB (g:=gb184) (o:=.cells #[.int .i64 x185000_2, .slice none 0 0] 69 (0,0)) (by (with_reducible repeat (first|refine qn ?_ _|refine qd ?_|refine qa ?_ _));exact BK184.out) k_ hk,Kd.freshB (g:=gb187) (o:=.cells #[u188000] 43 (0,0)) (by (with_reducible repeat (first|refine qn ?_ _|refine qd ?_|refine qa ?_ _));exact BK187.out) k_ hk,Kd.freshB (g:=gb189) (o:=.cells #[.int .i64 ((rd_T147 l2 x41_2).f0), .int .u8 ((rd_T147 l2 x41_2).f1)] 147 (0,0)) (by (with_reducible repeat (first|refine qn ?_ _|refine qd ?_|refine qa ?_ _));exact BK189.out) k_ hk⟩))
           (case aO=>exact d57)
           (case aS=>exact (pz (by repeat (first|(with_reducible first|exact HB.out|apply pa|apply pb|apply pd|refine pt ?_ GE183.out|refine pt ?_ GE184.out|refine pt ?_ GE187.out|refine pt ?_ GE189.out)|exact HB.out))))
           (case aL=>have:=LMc81.out;omega)
           intro v205 w92 ho hb hg hat
           rw [← Ny204.out] at ho
           have n0_:=am (Kd.R_over' d6 (Kd.N_typed d13) d8 hg)
           have n1_:=am (blk_grown (g:=gb183) (o:=.cells #[.int .i64 a0_0, .int .i64 a0_1] 72 (0,0)) (by (with_reducible repeat (first|refine qn ?_ _|refine qd ?_|refine qa ?_ _));exact BK183.out) hg (Kd.N_ne HO_188000.out BK183.out d8))
           have n2_:=am (blk_grown (g:=gb184) (o:=.cells #[.int .i64 x185000_2, .slice none 0 0] 69 (0,0)) (by (with_reducible repeat (first|refine qn ?_ _|refine qd ?_|refine qa ?_ _));exact BK184.out) hg (Kd.N_ne HO_188000.out BK184.out d8))
           have n3_:=am (blk_grown (g:=gb187) (o:=.cells #[u188000] 43 (0,0)) (by (with_reducible repeat (first|refine qn ?_ _|refine qd ?_|refine qa ?_ _));exact BK187.out) hg (Kd.N_ne HO_188000.out BK187.out d8))
           have n4_:=am (blk_grown (g:=gb189) (o:=.cells #[.int .i64 ((rd_T147 l2 x41_2).f0), .int .u8 ((rd_T147 l2 x41_2).f1)] 147 (0,0)) (by (with_reducible repeat (first|refine qn ?_ _|refine qd ?_|refine qa ?_ _));exact BK189.out) hg (Kd.N_ne HO_188000.out BK189.out d8))
           have n5_:=am (hb)
           have n6_:=am (ho)
           clear HO_10
           clear BK183
           clear BK184
           clear BK187
           clear BK189
           clear HB
           clear HO_188000
           clear HO203
           have HO_10:=n0_
           have BK183:=n1_
           have BK184:=n2_
           have BK187:=n3_
           have BK189:=n4_
           have HB:=n5_
           have HO206:=n6_
           clear n0_ n1_ n2_ n3_ n4_ n5_ n6_
           clear ho hb hg hat
           obtain ⟨Ao94,co94,eo94⟩:=Kd.N_slice HO206.out
           (first|subst eo94|(injection eo94 with f1_ f2_ f3_;have f4_:=f1_.symm;have f5_:=f3_.symm;clear f1_ f2_ f3_;subst f4_;subst f5_))
           refine hK.out _ _ ⟨(blk_cell BK187.out 0).trans rfl,(blk_cell BK183.out 0).trans rfl,(blk_cell BK183.out 1).trans rfl,(blk_cell BK189.out 0).trans rfl,(blk_cell BK189.out 1).trans rfl⟩ (fun hHeld=>?_)
           clear hK K
           refine rN (a':=?_) ?_ ?_
           rotate_left
           ·show Act.put _ (some 82) _=_
            simp only [Act.put,q1,q2,q3,i64_w,i32_w]
            rfl
           refine rR ?_
           refine rL (N:=none) HT_ rfl rfl d3 d8 (fun K hK=>?_)
           have hs95:w92.cell? ⟨gb187,0,none⟩=some (u188000):=(blk_cell BK187.out 0).trans rfl
           have hfs95:=blk_frozen BK187.out 0
           have hns95_0:=NB183_187.out
           have hns95_1:=NB184_187.out
           have hns95_3:=NB189_187.out
           have hms95_0:=NB187_183.out
           have hms95_1:=NB187_184.out
           have hms95_3:=NB187_189.out
           refine skip_ (w1:=?_) d20 rfl ?_ ?_
           rotate_left
           ·go_simp
            rfl
           refine hK.out _ _ ?_
           clear hK K
           refine rD HT_ d3 ?_
           have hcz96_0:w92.cell? ⟨gb189,0,none⟩=some (.int .i64 ((rd_T147 l2 x41_2).f0)):=(blk_cell BK189.out 0).trans rfl
           have hcz96_1:w92.cell? ⟨gb189,1,none⟩=some (.int .u8 ((rd_T147 l2 x41_2).f1)):=(blk_cell BK189.out 1).trans rfl
           have hfz96_0:=blk_frozen BK189.out 0
           have hfz96_1:=blk_frozen BK189.out 1
           try go_wp2_with (first|((with_reducible refine gate_builtin (b:=.append) (xs:=#[.tmp 84, .tmp 87]) rfl ?_);(try (refine gate_guard d20 ?_;dsimp only));at_builtin;refine Kd.R_append (Kd.int .u8) (w0:=w) w.heap.size rfl (.tmp 84) (.tmp 87) 57 5 (.int .u8 0) 1 rfl Try.underlying57 info5 rfl d8 d15 u10 x10_2 ((rd_T147 l2 x41_2).f1) [.int .u8 ((rd_T147 l2 x41_2).f1)] (fun _=>True) (fun _=>False) rfl (by first|(go_simp;done)|(go_simp;rfl)) ?aP (fun _ hk=>hk.elim) ?aF ?aO ?aB ?aS ?aL ?_;(case aP=>exact rfl);(case aB=>exact (by repeat (first|(with_reducible first|exact HB.out|apply pa|apply pb|apply pd|refine pt ?_ GE183.out|refine pt ?_ GE184.out|refine pt ?_ GE187.out|refine pt ?_ GE189.out)|exact HB.out)));(case aF=>exact (fun _ _=>trivial));(case aO=>exact (by (with_reducible repeat (first|apply Kd.R_alloc|apply Kd.R_drewN|apply Kd.R_drew));exact Kd.R_mono (Kd.R_far (p:=⟨gb187,0,none⟩) (Kd.R_types HO_10.out BK187.out d8) (fun _ hk=>hk.2) (.slice Ao94 y204.length co94)) (fun _ hk=>trivial)));(case aS=>exact (pz (by repeat (first|(with_reducible first|exact HB.out|apply pa|apply pb|apply pd|refine pt ?_ GE183.out|refine pt ?_ GE184.out|refine pt ?_ GE187.out|refine pt ?_ GE189.out)|exact HB.out))));(case aL=>have:=LMc82.out;omega);intro v208 w97 ho hb hg hat;rw [← Ny207.out] at ho;have n0_:=am (blk_grown (g:=gb183) (o:=.cells #[.int .i64 a0_0, .int .i64 a0_1] 72 (0,0)) (by (with_reducible repeat (first|refine qn ?_ _|refine qd ?_|refine qa ?_ _));refine blk_far ?_ NB183_187.out _;(with_reducible repeat (first|refine qn ?_ _|refine qd ?_|refine qa ?_ _));exact BK183.out) hg (Kd.R_ne HO_10.out BK183.out d8));have n1_:=am (blk_grown (g:=gb184) (o:=.cells #[.int .i64 x185000_2, .slice none 0 0] 69 (0,0)) (by (with_reducible repeat (first|refine qn ?_ _|refine qd ?_|refine qa ?_ _));refine blk_far ?_ NB184_187.out _;(with_reducible repeat (first|refine qn ?_ _|refine qd ?_|refine qa ?_ _));exact BK184.out) hg (Kd.R_ne HO_10.out BK184.out d8));have n2_:=am (blk_grown (g:=gb187) (o:=.cells #[.slice Ao94 y204.length co94] 43 (0,0)) (by (with_reducible repeat (first|refine qn ?_ _|refine qd ?_|refine qa ?_ _));refine blk_put (cs:=#[u188000]) ?_ 0 _ rfl;(with_reducible repeat (first|refine qn ?_ _|refine qd ?_|refine qa ?_ _));exact BK187.out) hg (Kd.R_ne HO_10.out BK187.out d8));have n3_:=am (blk_grown (g:=gb189) (o:=.cells #[.int .i64 ((rd_T147 l2 x41_2).f0), .int .u8 ((rd_T147 l2 x41_2).f1)] 147 (0,0)) (by (with_reducible repeat (first|refine qn ?_ _|refine qd ?_|refine qa ?_ _));refine blk_far ?_ NB189_187.out _;(with_reducible repeat (first|refine qn ?_ _|refine qd ?_|refine qa ?_ _));exact BK189.out) hg (Kd.R_ne HO_10.out BK189.out d8));have n4_:=am (Kd.N_afterv (ok:=(fun k_=>k_ ≠ gb183∧k_ ≠ gb184∧k_ ≠ gb187∧k_ ≠ gb189)) (by (with_reducible repeat (first|apply Kd.N_alloc|apply Kd.N_drewN|apply Kd.N_drew));exact Kd.N_mono (Kd.N_far (p:=⟨gb187,0,none⟩) (Kd.N_mono HO206.out (fun k_ hk=>(⟨hk,hk.2.2.2.1⟩:_∧k_ ≠ gb187))) (fun _ hk=>hk.2) (.slice Ao94 y204.length co94)) (fun _ hk=>⟨⟨hk.1.2.1,⟨hk.1.2.2.1,⟨hk.1.2.2.2.1,hk.1.2.2.2.2⟩⟩⟩,hk.1.1⟩)) hg hat);have n5_:=am (hb);have n6_:=am (ho);clear BK183;clear BK184;clear BK187;clear BK189;clear HO206;clear HB;clear HO_10;have BK183:=n0_;have BK184:=n1_;have BK187:=n2_;have BK189:=n3_;have HO206:=n4_;have HB:=n5_;have HO209:=n6_;clear n0_ n1_ n2_ n3_ n4_ n5_ n6_;clear ho hb hg hat))
           go_roundg k2
           case measure=>have:=HJ3.out;have:=HK2.out;omega
           case rel=>exact ⟨(y207),(wrap64 (x41_2+1)),(x185000_2),(y204),(.slice Ao94 y204.length co94),d4,H',⟨by have:=HJ3.out;have:=HK2.out;omega⟩,⟨by (with_reducible repeat (first|apply Kd.R_alloc|apply Kd.R_drewN|apply Kd.R_drew));exact HO209.out⟩,⟨by (with_reducible repeat (first|apply Kd.N_alloc|apply Kd.N_drewN|apply Kd.N_drew));exact Kd.N_mono HO206.out (fun _ hk=>⟨hk.2,⟨hk.1.1,⟨hk.1.2.1,hk.1.2.2.1⟩⟩⟩)⟩,⟨by (with_reducible repeat (first|refine qn ?_ _|refine qd ?_|refine qa ?_ _));exact BK183.out⟩,⟨by (with_reducible repeat (first|refine qn ?_ _|refine qd ?_|refine qa ?_ _));exact BK184.out⟩,⟨by (with_reducible repeat (first|refine qn ?_ _|refine qd ?_|refine qa ?_ _));exact BK187.out⟩,⟨by repeat (first|(with_reducible first|exact HB.out|apply pa|apply pb|apply pd|refine pt ?_ GE183.out|refine pt ?_ GE184.out|refine pt ?_ GE187.out|refine pt ?_ GE189.out)|exact HB.out)⟩⟩
          rw [if_neg c82] at H
          exact absurd H d31
         rw [if_neg c81] at H
         exact absurd H d31
        replace c35:=Bool.eq_false_iff.mpr c35
        subst c35
        have H1:(some (0,([]:List Int),false))=some (r1,r2,r3):=by rw [if_neg (show ¬ (false=true) by decide)] at H;exact H
        clear H
        have H:=H1
        clear H1
        simp only [Option.some.injEq,Prod.mk.injEq] at H
        obtain ⟨rfl,rfl,rfl⟩:=H
        have p188:0≤(x41_2:Int):=od d2
        have q188:x41_2 < (l2.length:Int):=od d2
        obtain ⟨ad188,e188,hx188_0,hx188_1⟩:=at_T147 HR2.out x41_2 p188 q188
        cases e188
        replace hx188_0:=(HB.out.cell (World.block_lt_of_cell? w _ hx188_0)).trans hx188_0
        replace hx188_1:=(HB.out.cell (World.block_lt_of_cell? w _ hx188_1)).trans hx188_1
        replace p188:=eq_true p188
        replace q188:=eq_true q188
        try go_wp2_with (first|((with_reducible refine gate_dst (N:=12) rfl ?_);(try (refine gate_guard d20 ?_;dsimp only));refine box_event ?hg (N:=12) ?hd (cs:=#[.int .i64 0, .int .u8 0]) (t:=147) ?hr ?_;(case hd=>rfl);(case hg=>rfl);(case hr=>first|(go_simp;done)|(go_simp;rfl));intro gb189 hg w98 hbox hb;have n0_:=am (Kd.R_below d6 hb);have n1_:=am (Kd.N_below (Kd.N_elderB d13 gb189 (Nat.le_of_eq hg.symm)) hb);have n2_:=am (qb (g:=gb183) (o:=.cells #[.int .i64 a0_0, .int .i64 a0_1] 72 (0,0)) (by (with_reducible repeat (first|refine qn ?_ _|refine qd ?_|refine qa ?_ _));exact BK183.out) hb);have n3_:=am (qb (g:=gb184) (o:=.cells #[.int .i64 x185000_2, .slice none 0 0] 69 (0,0)) (by (with_reducible repeat (first|refine qn ?_ _|refine qd ?_|refine qa ?_ _));exact BK184.out) hb);have n4_:=am (qb (g:=gb187) (o:=.cells #[u188000] 43 (0,0)) (by (with_reducible repeat (first|refine qn ?_ _|refine qd ?_|refine qa ?_ _));exact BK187.out) hb);have n5_:=am (pu (by repeat (first|(with_reducible first|exact HB.out|apply pa|apply pb|apply pd|refine pt ?_ GE183.out|refine pt ?_ GE184.out|refine pt ?_ GE187.out)|exact HB.out)) hb);have n6_:=am (hbox);have n7_:=am ((by rw [hg];exact (pz (by repeat (first|(with_reducible first|exact HB.out|apply pa|apply pb|apply pd|refine pt ?_ GE183.out|refine pt ?_ GE184.out|refine pt ?_ GE187.out)|exact HB.out))):w.heap.size≤gb189));have n8_:=n7_;have n9_:=am ((by rw [hg];exact Nat.ne_of_lt (blk_lt (g:=gb183) (o:=.cells #[.int .i64 a0_0, .int .i64 a0_1] 72 (0,0)) (by (with_reducible repeat (first|refine qn ?_ _|refine qd ?_|refine qa ?_ _));exact BK183.out)):gb183 ≠ gb189));have n10_:=am ((by rw [hg];exact Nat.ne_of_gt (blk_lt (g:=gb183) (o:=.cells #[.int .i64 a0_0, .int .i64 a0_1] 72 (0,0)) (by (with_reducible repeat (first|refine qn ?_ _|refine qd ?_|refine qa ?_ _));exact BK183.out)):gb189 ≠ gb183));have n11_:=am ((by rw [hg];exact Nat.ne_of_lt (blk_lt (g:=gb184) (o:=.cells #[.int .i64 x185000_2, .slice none 0 0] 69 (0,0)) (by (with_reducible repeat (first|refine qn ?_ _|refine qd ?_|refine qa ?_ _));exact BK184.out)):gb184 ≠ gb189));have n12_:=am ((by rw [hg];exact Nat.ne_of_gt (blk_lt (g:=gb184) (o:=.cells #[.int .i64 x185000_2, .slice none 0 0] 69 (0,0)) (by (with_reducible repeat (first|refine qn ?_ _|refine qd ?_|refine qa ?_ _));exact BK184.out)):gb189 ≠ gb184));have n13_:=am ((by rw [hg];exact Nat.ne_of_lt (blk_lt (g:=gb187) (o:=.cells #[u188000] 43 (0,0)) (by (with_reducible repeat (first|refine qn ?_ _|refine qd ?_|refine qa ?_ _));exact BK187.out)):gb187 ≠ gb189));have n14_:=am ((by rw [hg];exact Nat.ne_of_gt (blk_lt (g:=gb187) (o:=.cells #[u188000] 43 (0,0)) (by (with_reducible repeat (first|refine qn ?_ _|refine qd ?_|refine qa ?_ _));exact BK187.out)):gb189 ≠ gb187));clear HO_10;clear HO_188000;clear BK183;clear BK184;clear BK187;clear HB;have HO_10:=n0_;have HO_188000:=n1_;have BK183:=n2_;have BK184:=n3_;have BK187:=n4_;have HB:=n5_;have BK189:=n6_;have GW189:=n7_;have GE189:=n8_;have NB183_189:=n9_;have NB189_183:=n10_;have NB184_189:=n11_;have NB189_184:=n12_;have NB187_189:=n13_;have NB189_187:=n14_;clear n0_ n1_ n2_ n3_ n4_ n5_ n6_ n7_ n8_ n9_ n10_ n11_ n12_ n13_ n14_;clear hb hbox hg;have hnb99:=NB189_183.out;have hnc99:=NB183_189.out;have hnb100:=NB189_184.out;have hnc100:=NB184_189.out;have hnb101:=NB189_187.out;have hnc101:=NB187_189.out;have hcz102_0:w98.cell? ⟨gb189,0,none⟩=some (.int .i64 0):=(blk_cell BK189.out 0).trans rfl;have hcz102_1:w98.cell? ⟨gb189,1,none⟩=some (.int .u8 0):=(blk_cell BK189.out 1).trans rfl;have hfz102_0:=blk_frozen BK189.out 0;have hfz102_1:=blk_frozen BK189.out 1))
        have n0_:Aside0 (Kd.R (Kd.int .u8) 5 ((w98.setCell ⟨gb189,0,none⟩ (.int .i64 ((rd_T147 l2 x41_2).f0))).setCell ⟨gb189,1,none⟩ (.int .u8 ((rd_T147 l2 x41_2).f1))) w.heap.size (fun _=>True) u10 x10_2):=⟨d17⟩
        have n1_:Aside0 (Kd.N (Kd.slice 5 (Kd.int .u8)) 57 ((w98.setCell ⟨gb189,0,none⟩ (.int .i64 ((rd_T147 l2 x41_2).f0))).setCell ⟨gb189,1,none⟩ (.int .u8 ((rd_T147 l2 x41_2).f1))) w.heap.size (fun k_=>some k_ ≠ (u10:Value).ownBlock∧k_ ≠ gb183∧k_ ≠ gb184∧k_ ≠ gb187∧k_ ≠ gb189) u188000 x188000_2):=⟨d16⟩
        have n2_:Aside0 (((w98.setCell ⟨gb189,0,none⟩ (.int .i64 ((rd_T147 l2 x41_2).f0))).setCell ⟨gb189,1,none⟩ (.int .u8 ((rd_T147 l2 x41_2).f1))).heap[gb183]? = some (.cells #[.int .i64 a0_0, .int .i64 a0_1] 72 (0,0))):=⟨by (with_reducible repeat (first|refine qn ?_ _|refine qd ?_|refine qa ?_ _));refine blk_far ?_ NB183_189.out _;(with_reducible repeat (first|refine qn ?_ _|refine qd ?_|refine qa ?_ _));refine blk_far ?_ NB183_189.out _;(with_reducible repeat (first|refine qn ?_ _|refine qd ?_|refine qa ?_ _));exact BK183.out⟩
        have n3_:Aside0 (((w98.setCell ⟨gb189,0,none⟩ (.int .i64 ((rd_T147 l2 x41_2).f0))).setCell ⟨gb189,1,none⟩ (.int .u8 ((rd_T147 l2 x41_2).f1))).heap[gb184]? = some (.cells #[.int .i64 x185000_2, .slice none 0 0] 69 (0,0))):=⟨by (with_reducible repeat (first|refine qn ?_ _|refine qd ?_|refine qa ?_ _));refine blk_far ?_ NB184_189.out _;(with_reducible repeat (first|refine qn ?_ _|refine qd ?_|refine qa ?_ _));refine blk_far ?_ NB184_189.out _;(with_reducible repeat (first|refine qn ?_ _|refine qd ?_|refine qa ?_ _));exact BK184.out⟩
        have n4_:Aside0 (((w98.setCell ⟨gb189,0,none⟩ (.int .i64 ((rd_T147 l2 x41_2).f0))).setCell ⟨gb189,1,none⟩ (.int .u8 ((rd_T147 l2 x41_2).f1))).heap[gb187]? = some (.cells #[u188000] 43 (0,0))):=⟨by (with_reducible repeat (first|refine qn ?_ _|refine qd ?_|refine qa ?_ _));refine blk_far ?_ NB187_189.out _;(with_reducible repeat (first|refine qn ?_ _|refine qd ?_|refine qa ?_ _));refine blk_far ?_ NB187_189.out _;(with_reducible repeat (first|refine qn ?_ _|refine qd ?_|refine qa ?_ _));exact BK187.out⟩
        have n5_:Aside0 (((w98.setCell ⟨gb189,0,none⟩ (.int .i64 ((rd_T147 l2 x41_2).f0))).setCell ⟨gb189,1,none⟩ (.int .u8 ((rd_T147 l2 x41_2).f1))).heap[gb189]? = some (.cells #[.int .i64 ((rd_T147 l2 x41_2).f0), .int .u8 ((rd_T147 l2 x41_2).f1)] 147 (0,0))):=⟨by (with_reducible repeat (first|refine qn ?_ _|refine qd ?_|refine qa ?_ _));refine blk_put (cs:=#[.int .i64 ((rd_T147 l2 x41_2).f0), .int .u8 0]) ?_ 1 _ rfl;(with_reducible repeat (first|refine qn ?_ _|refine qd ?_|refine qa ?_ _));refine blk_put (cs:=#[.int .i64 0, .int .u8 0]) ?_ 0 _ rfl;(with_reducible repeat (first|refine qn ?_ _|refine qd ?_|refine qa ?_ _));exact BK189.out⟩
        have n6_:Aside0 (Below w.heap.size w ((w98.setCell ⟨gb189,0,none⟩ (.int .i64 ((rd_T147 l2 x41_2).f0))).setCell ⟨gb189,1,none⟩ (.int .u8 ((rd_T147 l2 x41_2).f1)))):=⟨by repeat (first|(with_reducible first|exact HB.out|apply pa|apply pb|apply pd|refine pt ?_ GE183.out|refine pt ?_ GE184.out|refine pt ?_ GE187.out|refine pt ?_ GE189.out)|exact HB.out)⟩
        (try clear HO_10)
        (try clear HO_188000)
        (try clear BK183)
        (try clear BK184)
        (try clear BK187)
        (try clear BK189)
        (try clear HB)
        generalize ((w98.setCell ⟨gb189,0,none⟩ (.int .i64 ((rd_T147 l2 x41_2).f0))).setCell ⟨gb189,1,none⟩ (.int .u8 ((rd_T147 l2 x41_2).f1)))=w103 at n0_ n1_ n2_ n3_ n4_ n5_ n6_ ⊢
        have HO_10:=n0_
        have HO_188000:=n1_
        have BK183:=n2_
        have BK184:=n3_
        have BK187:=n4_
        have BK189:=n5_
        have HB:=n6_
        clear n0_ n1_ n2_ n3_ n4_ n5_ n6_
        have n0_:=am (Kd.R_drew HO_10.out)
        have n1_:=am (Kd.N_drew HO_188000.out)
        have n2_:=am (qd BK183.out)
        have n3_:=am (qd BK184.out)
        have n4_:=am (qd BK187.out)
        have n5_:=am (qd BK189.out)
        have n6_:=am (pd HB.out)
        clear HO_10
        clear HO_188000
        clear BK183
        clear BK184
        clear BK187
        clear BK189
        clear HB
        have HO_10:=n0_
        have HO_188000:=n1_
        have BK183:=n2_
        have BK184:=n3_
        have BK187:=n4_
        have BK189:=n5_
        have HB:=n6_
        clear n0_ n1_ n2_ n3_ n4_ n5_ n6_
        refine rS (n:=28) (S:=fun w'=>w'.cell? ⟨gb189,0,none⟩=some (.int .i64 ((rd_T147 l2 x41_2).f0))∧w'.cell? ⟨gb189,1,none⟩=some (.int .u8 ((rd_T147 l2 x41_2).f1))∧w'.cell? ⟨gb183,0,none⟩=some (.int .i64 a0_0)∧w'.cell? ⟨gb183,1,none⟩=some (.int .i64 a0_1)) (ds:=[]) [(0,46),(2,48),(1,47),(3,49),(4,50),(5,0),(6,52),(7,53),(8,54),(9,55),(10,56),(11,57),(12,58),(13,59),(14,60),(15,61),(16,62),(17,63),(18,64),(19,65),(20,66),(21,67),(22,68),(23,69),(24,70),(25,71),(26,72),(27,73)] d3 rfl spec_RegeneratePiece.tab9 spec_RegeneratePiece.bits9 ⟨(blk_cell BK189.out 0).trans rfl,(blk_cell BK189.out 1).trans rfl,(blk_cell BK183.out 0).trans rfl,(blk_cell BK183.out 1).trans rfl⟩ (fun hHeld HT_ HW_=>?_)
        generalize w103.drew=w104 at HO_10 HO_188000 BK183 BK184 BK187 BK189 HB hHeld ⊢
        refine rR ?_
        refine rO (N:=some 51) HT_ rfl rfl d3 d8 (fun K hK=>?_)
        refine goes_ Try.func121 d3 rfl #[.int .i64 ((rd_T147 l2 x41_2).f0), .int .i64 0, .int .i64 (wrap64 (a0_0 - 1))] d20 rfl rfl d1 ?_
        with_reducible refine (spec_l1In.calls ((rd_T147 l2 x41_2).f0) 0 (wrap64 (a0_0 - 1)) false _ A34.out).mono ?_
        rintro e w' ⟨rfl,⟨nd,rfl⟩⟩
        refine ⟨_,rfl,?_⟩
        refine hK.out _ _ ⟨(blk_cell BK189.out 0).trans rfl,(blk_cell BK189.out 1).trans rfl,(blk_cell BK183.out 0).trans rfl,(blk_cell BK183.out 1).trans rfl⟩ (fun hHeld=>?_)
        clear hK K
        refine rN (a':=?_) ?_ ?_
        rotate_left
        ·show Act.put _ (some 51) _=_
         simp only [Act.put,q1,q2,q3,i64_w,i32_w]
         rfl
        refine rR ?_
        refine rD HT_ d3 ?_
        have hnb105:=NB184_183.out
        have hnc105:=NB183_184.out
        have hnb106:=NB184_187.out
        have hnc106:=NB187_184.out
        have hcz107_0:w104.cell? ⟨gb184,0,none⟩=some (.int .i64 x185000_2):=(blk_cell BK184.out 0).trans rfl
        have hcz107_1:w104.cell? ⟨gb184,1,none⟩=some (.slice none 0 0):=(blk_cell BK184.out 1).trans rfl
        have hfz107_0:=blk_frozen BK184.out 0
        have hfz107_1:=blk_frozen BK184.out 1
        try go_wp2
        refine bodyPost_ret (results_ct rfl _ _ gb184 69 #[.int .i64 0, .slice none 0 0] (0,0) _ rfl (by (with_reducible repeat (first|refine qn ?_ _|refine qd ?_|refine qa ?_ _));refine blk_put (cs:=#[.int .i64 0, .slice none 0 0]) ?_ 1 _ rfl;(with_reducible repeat (first|refine qn ?_ _|refine qd ?_|refine qa ?_ _));refine blk_put (cs:=#[.int .i64 x185000_2, .slice none 0 0]) ?_ 0 _ rfl;(with_reducible repeat (first|refine qn ?_ _|refine qd ?_|refine qa ?_ _));exact BK184.out) Try.underlying69 rfl d3) rfl ?_
        exact ⟨_,d5,d14,by repeat (first|(with_reducible first|exact HB.out|apply pa|apply pb|apply pd|refine pt ?_ GE183.out|refine pt ?_ GE184.out|refine pt ?_ GE187.out|refine pt ?_ GE189.out)|exact HB.out)⟩
       rw [if_neg c33] at H
       exact absurd H d31
      rw [if_neg c32] at H
      exact absurd H d31
     rw [if_neg c31] at H
     have c31b0:decide (x41_2 < (l2.length:Int))=false:=decide_eq_false c31
     clear c31
     replace H:=Option.bind_eq_some_iff.mp H
     obtain ⟨⟨t210,t213⟩,A1080,H⟩:=H
     replace H:(if t213=true then ((spec_l2Apply.f k2 t210 x10_2).bind fun t215=>(if 0≤(wrap64 (a0_1 - 1)) then (if (wrap64 (a0_1 - 1))≤(t215.length:Int) then ((spec_l5F.f k2 a0_0 a0_1 a1).bind fun t223=>((spec_l1Scale.f k2 t223 (t215.drop ((wrap64 (a0_1 - 1)):Int).toNat)).bind fun t229=>((spec_l1Add.f k2 (t215.take ((wrap64 (a0_1 - 1)):Int).toNat) t229).bind fun t232=>(some (a1,t232,true))))) else (none)) else (none))) else (some (0,([]:List Int),false)))=some (r1,r2,r3):=H
     have A108:=am A1080
     clear A1080
     by_cases c109:t213=true
     ·subst c109
      have H1:((spec_l2Apply.f k2 t210 x10_2).bind fun t215=>(if 0≤(wrap64 (a0_1 - 1)) then (if (wrap64 (a0_1 - 1))≤(t215.length:Int) then ((spec_l5F.f k2 a0_0 a0_1 a1).bind fun t223=>((spec_l1Scale.f k2 t223 (t215.drop ((wrap64 (a0_1 - 1)):Int).toNat)).bind fun t229=>((spec_l1Add.f k2 (t215.take ((wrap64 (a0_1 - 1)):Int).toNat) t229).bind fun t232=>(some (a1,t232,true))))) else (none)) else (none)))=some (r1,r2,r3):=by rw [if_pos rfl] at H;exact H
      clear H
      have H:=H1
      clear H1
      replace H:=Option.bind_eq_some_iff.mp H
      obtain ⟨t215,A1100,H⟩:=H
      replace H:(if 0≤(wrap64 (a0_1 - 1)) then (if (wrap64 (a0_1 - 1))≤(t215.length:Int) then ((spec_l5F.f k2 a0_0 a0_1 a1).bind fun t223=>((spec_l1Scale.f k2 t223 (t215.drop ((wrap64 (a0_1 - 1)):Int).toNat)).bind fun t229=>((spec_l1Add.f k2 (t215.take ((wrap64 (a0_1 - 1)):Int).toNat) t229).bind fun t232=>(some (a1,t232,true))))) else (none)) else (none))=some (r1,r2,r3):=H
      have A110:=am A1100
      clear A1100
      obtain ⟨ji111,hji111⟩:∃ j_:Int,(wrap64 (a0_1 - 1))=j_:=⟨_,rfl⟩
      replace H:(if 0≤(ji111) then (if (ji111)≤(t215.length:Int) then ((spec_l5F.f k2 a0_0 a0_1 a1).bind fun t223=>((spec_l1Scale.f k2 t223 (t215.drop ((ji111):Int).toNat)).bind fun t229=>((spec_l1Add.f k2 (t215.take ((ji111):Int).toNat) t229).bind fun t232=>(some (a1,t232,true))))) else (none)) else (none))=some (r1,r2,r3):=by first|(rw [hji111] at H;exact H)|(simp only [hji111] at H ⊢;exact H)
      (try rw [hji111] at A108)
      (try rw [hji111] at A110)
      have hji111w:(IntKind.i64.wrap (a0_1 - 1))=ji111:=(i64_w _).trans hji111
      by_cases c112:0≤(ji111)
      ·rw [if_pos c112] at H
       have c112b0:=eq_true c112
       have c112b1:decide (0≤(ji111))=true:=decide_eq_true c112
       clear c112
       by_cases c113:(ji111)≤(t215.length:Int)
       ·rw [if_pos c113] at H
        have c113b0:=eq_true c113
        have c113b1:decide ((ji111)≤(t215.length:Int))=true:=decide_eq_true c113
        clear c113
        obtain ⟨y218,hy218⟩:∃ y_:List Int,y_=(t215.take ((ji111):Int).toNat):=⟨_,rfl⟩
        replace H:((spec_l5F.f k2 a0_0 a0_1 a1).bind fun t223=>((spec_l1Scale.f k2 t223 (t215.drop ((ji111):Int).toNat)).bind fun t229=>((spec_l1Add.f k2 y218 t229).bind fun t232=>(some (a1,t232,true)))))=some (r1,r2,r3):=by first|(rw [hy218];with_reducible exact H)|(have H2_:=(Option.bind_some _ _).symm.trans H;rw [hy218];with_reducible exact H2_)|(have H2_:=(Option.bind_some _ _).symm.trans H;with_reducible exact H2_)|with_reducible exact H|(rw [hy218];exact H)|exact H
        have Ny218:=am hy218
        clear hy218
        replace H:=Option.bind_eq_some_iff.mp H
        obtain ⟨t223,A1140,H⟩:=H
        replace H:((spec_l1Scale.f k2 t223 (t215.drop ((ji111):Int).toNat)).bind fun t229=>((spec_l1Add.f k2 y218 t229).bind fun t232=>(some (a1,t232,true))))=some (r1,r2,r3):=H
        have A114:=am A1140
        clear A1140
        have c115b0:=eq_true (od d2:0≤(ji111))
        have c116b0:=eq_true (od d2:(ji111)≤(t215.length:Int))
        obtain ⟨y224,hy224⟩:∃ y_:List Int,y_=(t215.drop ((ji111):Int).toNat):=⟨_,rfl⟩
        replace H:((spec_l1Scale.f k2 t223 y224).bind fun t229=>((spec_l1Add.f k2 y218 t229).bind fun t232=>(some (a1,t232,true))))=some (r1,r2,r3):=by first|(rw [hy224];with_reducible exact H)|(have H2_:=(Option.bind_some _ _).symm.trans H;rw [hy224];with_reducible exact H2_)|(have H2_:=(Option.bind_some _ _).symm.trans H;with_reducible exact H2_)|with_reducible exact H|(rw [hy224];exact H)|exact H
        have Ny224:=am hy224
        clear hy224
        replace H:=Option.bind_eq_some_iff.mp H
        obtain ⟨t229,A1170,H⟩:=H
        replace H:((spec_l1Add.f k2 y218 t229).bind fun t232=>(some (a1,t232,true)))=some (r1,r2,r3):=H
        have A117:=am A1170
        clear A1170
        replace H:=Option.bind_eq_some_iff.mp H
        obtain ⟨t232,A1180,H⟩:=H
        replace H:(some (a1,t232,true))=some (r1,r2,r3):=H
        have A118:=am A1180
        clear A1180
        simp only [Option.some.injEq,Prod.mk.injEq] at H
        obtain ⟨rfl,rfl,rfl⟩:=H
        have hnb119:=NB187_183.out
        have hnc119:=NB183_187.out
        have hnb120:=NB187_184.out
        have hnc120:=NB184_187.out
        have hcz121_0:wr.cell? ⟨gb187,0,none⟩=some (u188000):=(blk_cell BK187.out 0).trans rfl
        have hfz121_0:=blk_frozen BK187.out 0
        obtain ⟨Ao122,co122,eo122⟩:=Kd.N_slice HO_188000.out
        subst eo122
        try go_wp2_with (first|((with_reducible refine gate_callee (f:=91) rfl ?_);refine goesL_ (some 92) rfl rfl Try.func91 d3 rfl #[.agg #[.slice Ao122 x188000_2.length co122]] rfl d1 ?_;(with_reducible refine (spec_l2Inverse.calls _ _ x188000_2 t210 true _ ?side1 ?side2 A108.out).mono ?_);(case side1=>repeat (first|exact (Kd.N_reads' HO_188000.out).2.2|(with_reducible refine Kd.C_alloc ?_ _)|(with_reducible refine Kd.C_drewN ?_ _)|(with_reducible refine Kd.C_drew ?_)));(case side2=>exact (Kd.N_reads' HO_188000.out).2.1);rintro e w123 ⟨v211,rfl,ho0,hb⟩;refine ⟨_,rfl,?_⟩;have n0_:=am (Kd.R_below d6 hb);have n1_:=am (Kd.N_elder' d13 (by first|exact Kd.N_base ho0|exact Kd.S_base ho0|exact Kd.R_base ho0) hb);have n2_:=am (Kd.N_lower (Kd.N_mono (ok':=fun k_=>some k_ ≠ (u10:Value).ownBlock∧some k_ ≠ (.slice Ao122 x188000_2.length co122:Value).ownBlock∧k_ ≠ gb183∧k_ ≠ gb184∧k_ ≠ gb187) ho0 (fun k_ hk_=>⟨(Kd.fresh' (Kd.R_lt d6) k_ hk_),(Kd.fresh' (Kd.N_lt d13) k_ hk_),(Kd.freshB (g:=gb183) (o:=.cells #[.int .i64 a0_0, .int .i64 a0_1] 72 (0,0)) (by (with_reducible repeat (first|refine qn ?_ _|refine qd ?_|refine qa ?_ _));exact BK183.out) k_ hk_),(Kd.freshB (g:=gb184) (o:=.cells #[.int .i64 x185000_2, .slice none 0 0] 69 (0,0)) (by (with_reducible repeat (first|refine qn ?_ _|refine qd ?_|refine qa ?_ _));exact BK184.out) k_ hk_),(Kd.freshB (g:=gb187) (o:=.cells #[.slice Ao122 x188000_2.length co122] 43 (0,0)) (by (with_reducible repeat (first|refine qn ?_ _|refine qd ?_|refine qa ?_ _));exact BK187.out) k_ hk_)⟩)) (pz (by repeat (first|(with_reducible first|exact HB.out|apply pa|apply pb|apply pd|refine pt ?_ GE183.out|refine pt ?_ GE184.out|refine pt ?_ GE187.out)|exact HB.out))));have n3_:=am (qb (g:=gb183) (o:=.cells #[.int .i64 a0_0, .int .i64 a0_1] 72 (0,0)) (by (with_reducible repeat (first|refine qn ?_ _|refine qd ?_|refine qa ?_ _));exact BK183.out) hb);have n4_:=am (qb (g:=gb184) (o:=.cells #[.int .i64 x185000_2, .slice none 0 0] 69 (0,0)) (by (with_reducible repeat (first|refine qn ?_ _|refine qd ?_|refine qa ?_ _));exact BK184.out) hb);have n5_:=am (qb (g:=gb187) (o:=.cells #[.slice Ao122 x188000_2.length co122] 43 (0,0)) (by (with_reducible repeat (first|refine qn ?_ _|refine qd ?_|refine qa ?_ _));exact BK187.out) hb);have n6_:=am (pu (by repeat (first|(with_reducible first|exact HB.out|apply pa|apply pb|apply pd|refine pt ?_ GE183.out|refine pt ?_ GE184.out|refine pt ?_ GE187.out)|exact HB.out)) hb);clear HO_10;clear HO_188000;clear BK183;clear BK184;clear BK187;clear HB;have HO_10:=n0_;have HO_188000:=n1_;have HO212:=n2_;have BK183:=n3_;have BK184:=n4_;have BK187:=n5_;have HB:=n6_;clear n0_ n1_ n2_ n3_ n4_ n5_ n6_;(try clear hb);(try clear hb2);(try clear hk);(try clear hi);(try clear ho0))|((with_reducible refine gate_dst (N:=13) rfl ?_);(try (refine gate_guard d20 ?_;dsimp only));refine box_event ?hg (N:=13) ?hd (cs:=#[.slice none 0 0]) (t:=43) ?hr ?_;(case hd=>rfl);(case hg=>rfl);(case hr=>first|(go_simp;done)|(go_simp;rfl));intro gb214 hg w124 hbox hb;have n0_:=am (Kd.R_below d6 hb);have n1_:=am (Kd.N_below (Kd.N_elderB d13 gb214 (Nat.le_of_eq hg.symm)) hb);have n2_:=am (Kd.N_below (Kd.N_elderB d39 gb214 (Nat.le_of_eq hg.symm)) hb);have n3_:=am (qb (g:=gb183) (o:=.cells #[.int .i64 a0_0, .int .i64 a0_1] 72 (0,0)) (by (with_reducible repeat (first|refine qn ?_ _|refine qd ?_|refine qa ?_ _));exact BK183.out) hb);have n4_:=am (qb (g:=gb184) (o:=.cells #[.int .i64 x185000_2, .slice none 0 0] 69 (0,0)) (by (with_reducible repeat (first|refine qn ?_ _|refine qd ?_|refine qa ?_ _));exact BK184.out) hb);have n5_:=am (qb (g:=gb187) (o:=.cells #[.slice Ao122 x188000_2.length co122] 43 (0,0)) (by (with_reducible repeat (first|refine qn ?_ _|refine qd ?_|refine qa ?_ _));exact BK187.out) hb);have n6_:=am (pu (by repeat (first|(with_reducible first|exact HB.out|apply pa|apply pb|apply pd|refine pt ?_ GE183.out|refine pt ?_ GE184.out|refine pt ?_ GE187.out)|exact HB.out)) hb);have n7_:=am (hbox);have n8_:=am ((by rw [hg];exact (pz (by repeat (first|(with_reducible first|exact HB.out|apply pa|apply pb|apply pd|refine pt ?_ GE183.out|refine pt ?_ GE184.out|refine pt ?_ GE187.out)|exact HB.out))):w.heap.size≤gb214));have n9_:=n8_;have n10_:=am ((by rw [hg];exact Nat.ne_of_lt (blk_lt (g:=gb183) (o:=.cells #[.int .i64 a0_0, .int .i64 a0_1] 72 (0,0)) (by (with_reducible repeat (first|refine qn ?_ _|refine qd ?_|refine qa ?_ _));exact BK183.out)):gb183 ≠ gb214));have n11_:=am ((by rw [hg];exact Nat.ne_of_gt (blk_lt (g:=gb183) (o:=.cells #[.int .i64 a0_0, .int .i64 a0_1] 72 (0,0)) (by (with_reducible repeat (first|refine qn ?_ _|refine qd ?_|refine qa ?_ _));exact BK183.out)):gb214 ≠ gb183));have n12_:=am ((by rw [hg];exact Nat.ne_of_lt (blk_lt (g:=gb184) (o:=.cells #[.int .i64 x185000_2, .slice none 0 0] 69 (0,0)) (by (with_reducible repeat (first|refine qn ?_ _|refine qd ?_|refine qa ?_ _));exact BK184.out)):gb184 ≠ gb214));have n13_:=am ((by rw [hg];exact Nat.ne_of_gt (blk_lt (g:=gb184) (o:=.cells #[.int .i64 x185000_2, .slice none 0 0] 69 (0,0)) (by (with_reducible repeat (first|refine qn ?_ _|refine qd ?_|refine qa ?_ _));exact BK184.out)):gb214 ≠ gb184));have n14_:=am ((by rw [hg];exact Nat.ne_of_lt (blk_lt (g:=gb187) (o:=.cells #[.slice Ao122 x188000_2.length co122] 43 (0,0)) (by (with_reducible repeat (first|refine qn ?_ _|refine qd ?_|refine qa ?_ _));exact BK187.out)):gb187 ≠ gb214));have n15_:=am ((by rw [hg];exact Nat.ne_of_gt (blk_lt (g:=gb187) (o:=.cells #[.slice Ao122 x188000_2.length co122] 43 (0,0)) (by (with_reducible repeat (first|refine qn ?_ _|refine qd ?_|refine qa ?_ _));exact BK187.out)):gb214 ≠ gb187));clear HO_10;clear HO_188000;clear HO212;clear BK183;clear BK184;clear BK187;clear HB;have HO_10:=n0_;have HO_188000:=n1_;have HO212:=n2_;have BK183:=n3_;have BK184:=n4_;have BK187:=n5_;have HB:=n6_;have BK214:=n7_;have GW214:=n8_;have GE214:=n9_;have NB183_214:=n10_;have NB214_183:=n11_;have NB184_214:=n12_;have NB214_184:=n13_;have NB187_214:=n14_;have NB214_187:=n15_;clear n0_ n1_ n2_ n3_ n4_ n5_ n6_ n7_ n8_ n9_ n10_ n11_ n12_ n13_ n14_ n15_;clear hb hbox hg;obtain ⟨Ao125,co125,eo125⟩:=Kd.N_slice HO212.out;subst eo125;have hnb126:=NB214_183.out;have hnc126:=NB183_214.out;have hnb127:=NB214_184.out;have hnc127:=NB184_214.out;have hnb128:=NB214_187.out;have hnc128:=NB187_214.out;have hcz129_0:w124.cell? ⟨gb214,0,none⟩=some (.slice none 0 0):=(blk_cell BK214.out 0).trans rfl;have hfz129_0:=blk_frozen BK214.out 0;obtain ⟨Ao130,co130,eo130⟩:=Kd.R_slice HO_10.out;subst eo130)|((with_reducible refine gate_callee (f:=118) rfl ?_);refine goesL_ (some 100) rfl rfl Try.func118 d3 rfl #[.agg #[.slice Ao125 t210.length co125], .slice Ao130 x10_2.length co130] rfl d1 ?_;(with_reducible refine (spec_l2Apply.calls k2 _ _ t210 _ _ x10_2 t215 _ ?side1 ?side2 ?side3 ?side4 A110.out).mono ?_);(case side1=>refine (Kd.N_reads' (e:=57) (base:=w.heap.size) (ok:=fun k_=>((some k_ ≠ (.slice Ao130 x10_2.length co130:Value).ownBlock∧(some k_ ≠ (.slice Ao122 x188000_2.length co122:Value).ownBlock∧(k_ ≠ gb183∧(k_ ≠ gb184∧k_ ≠ gb187))))∧k_ ≠ gb214)) (n:=t210.length) (c:=co125) ?_).2.2;exact d50);(case side2=>exact (Kd.N_reads' HO212.out).2.1);(case side3=>refine (Kd.R_reads' (e:=5) (base:=w.heap.size) (ok:=fun k_=>True) (n:=x10_2.length) (c:=co130) ?_).2.2;exact d34);(case side4=>exact (Kd.R_reads' HO_10.out).2.1);rintro e w131 ⟨v216,rfl,ho0,hb⟩;refine ⟨_,rfl,?_⟩;have n0_:=am (Kd.R_elder' d34 (Kd.R_base ho0) hb);have n1_:=am (Kd.N_elder' (by (with_reducible repeat (first|apply Kd.N_alloc|apply Kd.N_drewN|apply Kd.N_drew));exact (Kd.N_mono (Kd.N_far (p:=⟨gb214,0,none⟩) (Kd.N_mono HO_188000.out (fun k_ hk=>(⟨hk,hk.2⟩:_∧k_ ≠ gb214))) (fun _ hk=>hk.2) (.slice Ao125 t210.length co125)) (fun _ h_=>h_.1))) (Kd.R_base ho0) hb);have n2_:=am (Kd.N_elder' d50 (Kd.R_base ho0) hb);have n3_:=am (Kd.R_lower (Kd.R_new' ho0 (Kd.R_lt d34)) (pz (by repeat (first|(with_reducible first|exact HB.out|apply pa|apply pb|apply pd|refine pt ?_ GE183.out|refine pt ?_ GE184.out|refine pt ?_ GE187.out|refine pt ?_ GE214.out)|exact HB.out))));have n4_:=am (qb (g:=gb183) (o:=.cells #[.int .i64 a0_0, .int .i64 a0_1] 72 (0,0)) (by (with_reducible repeat (first|refine qn ?_ _|refine qd ?_|refine qa ?_ _));refine blk_far ?_ NB183_214.out _;(with_reducible repeat (first|refine qn ?_ _|refine qd ?_|refine qa ?_ _));exact BK183.out) hb);have n5_:=am (qb (g:=gb184) (o:=.cells #[.int .i64 x185000_2, .slice none 0 0] 69 (0,0)) (by (with_reducible repeat (first|refine qn ?_ _|refine qd ?_|refine qa ?_ _));refine blk_far ?_ NB184_214.out _;(with_reducible repeat (first|refine qn ?_ _|refine qd ?_|refine qa ?_ _));exact BK184.out) hb);have n6_:=am (qb (g:=gb187) (o:=.cells #[.slice Ao122 x188000_2.length co122] 43 (0,0)) (by (with_reducible repeat (first|refine qn ?_ _|refine qd ?_|refine qa ?_ _));refine blk_far ?_ NB187_214.out _;(with_reducible repeat (first|refine qn ?_ _|refine qd ?_|refine qa ?_ _));exact BK187.out) hb);have n7_:=am (qb (g:=gb214) (o:=.cells #[.slice Ao125 t210.length co125] 43 (0,0)) (by (with_reducible repeat (first|refine qn ?_ _|refine qd ?_|refine qa ?_ _));refine blk_put (cs:=#[.slice none 0 0]) ?_ 0 _ rfl;(with_reducible repeat (first|refine qn ?_ _|refine qd ?_|refine qa ?_ _));exact BK214.out) hb);have n8_:=am (pu (by repeat (first|(with_reducible first|exact HB.out|apply pa|apply pb|apply pd|refine pt ?_ GE183.out|refine pt ?_ GE184.out|refine pt ?_ GE187.out|refine pt ?_ GE214.out)|exact HB.out)) hb);clear HO_10;clear HO_188000;clear HO212;clear BK183;clear BK184;clear BK187;clear BK214;clear HB;have HO_10:=n0_;have HO_188000:=n1_;have HO212:=n2_;have HO217:=n3_;have BK183:=n4_;have BK184:=n5_;have BK187:=n6_;have BK214:=n7_;have HB:=n8_;clear n0_ n1_ n2_ n3_ n4_ n5_ n6_ n7_ n8_;(try clear hb);(try clear hb2);(try clear hk);(try clear hi);(try clear ho0)))
        have n0_:=am (Kd.R_drew HO_10.out)
        have n1_:=am (Kd.N_drew HO_188000.out)
        have n2_:=am (Kd.N_drew HO212.out)
        have n3_:=am (Kd.R_drew HO217.out)
        have n4_:=am (qd BK183.out)
        have n5_:=am (qd BK184.out)
        have n6_:=am (qd BK187.out)
        have n7_:=am (qd BK214.out)
        have n8_:=am (pd HB.out)
        clear HO_10
        clear HO_188000
        clear HO212
        clear HO217
        clear BK183
        clear BK184
        clear BK187
        clear BK214
        clear HB
        have HO_10:=n0_
        have HO_188000:=n1_
        have HO212:=n2_
        have HO217:=n3_
        have BK183:=n4_
        have BK184:=n5_
        have BK187:=n6_
        have BK214:=n7_
        have HB:=n8_
        clear n0_ n1_ n2_ n3_ n4_ n5_ n6_ n7_ n8_
        obtain ⟨Ao134,co134,eo134⟩:=Kd.R_slice HO217.out
        (first|subst eo134|(injection eo134 with f1_ f2_ f3_;have f4_:=f1_.symm;have f5_:=f3_.symm;clear f1_ f2_ f3_;subst f4_;subst f5_))
        have q133:((ji111):Int)≤((t215.length:Int):Int):=od d2
        obtain ⟨i0133,hi0133,_,hsz133,_⟩:=info_parts info5
        have hroom133:t215.length≤co134:=(Kd.R_reads' HO217.out).2.1
        have hC133:Kd.F (Kd.int .u8) _ _ Ao134 t215.length t215:=(Kd.V_at (base:=w.heap.size) (Kd.R_V (Kd.R_types (Kd.R_types (Kd.R_types (Kd.R_types (Kd.R_apart' (Kd.R_apart' (HO217.out) (Kd.N_typed HO_188000.out) d8) (Kd.N_typed HO212.out) d8) BK183.out d8) BK184.out d8) BK187.out d8) BK214.out d8))).2.2
        have hcut133:=cut_to (P:=Try.prog) 57 5 .i64 Try.underlying57 hi0133 Ao134 t215.length co134 (ji111) (od d2) q133 hroom133
        have hr133:=Kd.F_take (m:=((ji111):Int).toNat) hC133 d15
        have hy133:y218.length=((ji111):Int).toNat:=(by rw [Ny218.out,List.length_take];omega)
        rw [← Ny218.out] at hr133
        rw [← hy133] at hcut133
        have HO222:=am (show Kd.V (Kd.int .u8) 5 _ w.heap.size _ (.slice Ao134 y218.length co134) y218 from Kd.V_mk d15 hr133)
        have HC222:=am (show y218.length≤co134 from by omega)
        clear hr133 hC133 hroom133 hi0133 hsz133
        have KY133:=am hy133
        clear hy133
        replace q133:=eq_true q133
        have q135:((ji111):Int)≤((t215.length:Int):Int):=od d2
        obtain ⟨i0135,hi0135,_,hsz135,_⟩:=info_parts info5
        have hroom135:t215.length≤co134:=(Kd.R_reads' HO217.out).2.1
        have hC135:Kd.F (Kd.int .u8) _ _ Ao134 t215.length t215:=(Kd.V_at (base:=w.heap.size) (Kd.R_V (Kd.R_types (Kd.R_types (Kd.R_types (Kd.R_types (Kd.R_apart' (Kd.R_apart' (HO217.out) (Kd.N_typed HO_188000.out) d8) (Kd.N_typed HO212.out) d8) BK183.out d8) BK184.out d8) BK187.out d8) BK214.out d8))).2.2
        have q0135:(0:Int)≤((ji111):Int):=od d2
        have hcut135:=cut_from (P:=Try.prog) 57 5 .i64 Try.underlying57 hi0135 1 hsz135 Ao134 t215.length co134 (ji111) q0135 q135
        have hr135:=Kd.F_cut (m:=((ji111):Int).toNat) (c:=co134) hC135 d15 hroom135
        obtain ⟨A135,hA135⟩:∃ A1,A1=(if co134=((ji111):Int).toNat then Ao134 else (Ao134:Option Addr).map (·.add (((ji111):Int).toNat*1))):=⟨_,rfl⟩
        obtain ⟨c135,hc135⟩:∃ c1,c1=co134 - ((ji111):Int).toNat:=⟨_,rfl⟩
        have hy135:y224.length=t215.length - ((ji111):Int).toNat:=(by rw [Ny224.out,List.length_drop] <;> omega)
        rw [show (t215).drop ((ji111):Int).toNat=y224 from Ny224.out.symm] at hr135
        replace hr135:Kd.F (Kd.int .u8) _ _ A135 y224.length y224:=(by rw [hA135];exact hr135)
        rw [← hy135,← hA135,← hc135] at hcut135
        have HO228:=am (show Kd.V (Kd.int .u8) 5 _ w.heap.size _ (.slice A135 y224.length c135) y224 from Kd.V_mk (by rw [hy135,hc135];exact Nat.sub_le_sub_right hroom135 _) hr135)
        have HC228:=am (show y224.length≤c135 from by rw [hy135,hc135];exact Nat.sub_le_sub_right hroom135 _)
        clear hr135 hC135 hroom135 hi0135 hsz135 hc135
        have KY135:=am hy135
        have KA135:=am hA135
        clear hy135 hA135
        replace q135:=eq_true q135
        refine rS (n:=15) (S:=fun w'=>w'.cell? ⟨gb183,0,none⟩=some (.int .i64 a0_0)∧w'.cell? ⟨gb183,1,none⟩=some (.int .i64 a0_1)) (ds:=[]) [(0,101),(1,102),(2,103),(3,104),(5,106),(7,108),(8,109),(9,110),(4,105),(6,0),(10,0),(11,0),(12,113),(13,0),(14,7)] d3 rfl spec_RegeneratePiece.tab18 spec_RegeneratePiece.bits18 ⟨(blk_cell BK183.out 0).trans rfl,(blk_cell BK183.out 1).trans rfl⟩ (fun hHeld HT_ HW_=>?_)
        generalize w131.drew=w132 at HO_10 HO_188000 HO212 HO217 BK183 BK184 BK187 BK214 HB HO222 HO228 hHeld ⊢
        refine rR ?_
        refine rO (N:=some 107) HT_ rfl rfl d3 d8 (fun K hK=>?_)
        refine goes_ Try.func125 d3 rfl #[.agg #[.int .i64 a0_0, .int .i64 a0_1], .int .i64 a1] d20 rfl rfl d1 ?_
        with_reducible refine (spec_l5F.calls k2 a0_0 a0_1 a1 t223 _ A114.out).mono ?_
        rintro e w136 ⟨rfl,hb⟩
        refine ⟨_,rfl,?_⟩
        have n0_:=am (Kd.R_below d6 hb)
        have n1_:=am (Kd.N_below d13 hb)
        have n2_:=am (Kd.N_below d39 hb)
        have n3_:=am (Kd.R_below d38 hb)
        have n4_:=am (Kd.V_below d59 hb)
        have n5_:=am (Kd.V_below d58 hb)
        have n6_:=am (qb (g:=gb183) (o:=.cells #[.int .i64 a0_0, .int .i64 a0_1] 72 (0,0)) (by (with_reducible repeat (first|refine qn ?_ _|refine qd ?_|refine qa ?_ _));exact BK183.out) hb)
        have n7_:=am (qb (g:=gb184) (o:=.cells #[.int .i64 x185000_2, .slice none 0 0] 69 (0,0)) (by (with_reducible repeat (first|refine qn ?_ _|refine qd ?_|refine qa ?_ _));exact BK184.out) hb)
        have n8_:=am (qb (g:=gb187) (o:=.cells #[.slice Ao122 x188000_2.length co122] 43 (0,0)) (by (with_reducible repeat (first|refine qn ?_ _|refine qd ?_|refine qa ?_ _));exact BK187.out) hb)
        have n9_:=am (qb (g:=gb214) (o:=.cells #[.slice Ao125 t210.length co125] 43 (0,0)) (by (with_reducible repeat (first|refine qn ?_ _|refine qd ?_|refine qa ?_ _));exact BK214.out) hb)
        have n10_:=am (pu (by repeat (first|(with_reducible first|exact HB.out|apply pa|apply pb|apply pd|refine pt ?_ GE183.out|refine pt ?_ GE184.out|refine pt ?_ GE187.out|refine pt ?_ GE214.out)|exact HB.out)) hb)
        clear HO_10
        clear HO_188000
        clear HO212
        clear HO217
        clear HO222
        clear HO228
        clear BK183
        clear BK184
        clear BK187
        clear BK214
        clear HB
        have HO_10:=n0_
        have HO_188000:=n1_
        have HO212:=n2_
        have HO217:=n3_
        have HO222:=n4_
        have HO228:=n5_
        have BK183:=n6_
        have BK184:=n7_
        have BK187:=n8_
        have BK214:=n9_
        have HB:=n10_
        clear n0_ n1_ n2_ n3_ n4_ n5_ n6_ n7_ n8_ n9_ n10_
        (try clear hb)
        (try clear hb2)
        (try clear hk)
        (try clear hi)
        refine hK.out _ _ ⟨(blk_cell BK183.out 0).trans rfl,(blk_cell BK183.out 1).trans rfl⟩ (fun hHeld=>?_)
        clear hK K
        refine rN (a':=?_) ?_ ?_
        rotate_left
        ·show Act.put _ (some 107) _=_
         simp only [Act.put,q1,q2,q3,i64_w,i32_w]
         rfl
        refine rO (N:=some 111) HT_ rfl rfl d3 d8 (fun K hK=>?_)
        refine goes_ Try.func124 d3 rfl #[.int .u8 t223, .slice A135 y224.length c135] d20 rfl rfl d1 ?_
        with_reducible refine (spec_l1Scale.calls k2 t223 _ _ y224 t229 _ ?side1 ?side2 A117.out).mono ?_
        (case side1=>repeat (first|exact (Kd.V_reads' HO228.out).2.2|(with_reducible refine Kd.C_alloc ?_ _)|(with_reducible refine Kd.C_drewN ?_ _)|(with_reducible refine Kd.C_drew ?_)))
        (case side2=>exact (Kd.V_reads' HO228.out).2.1)
        rintro e w137 ⟨v230,rfl,ho0,hb⟩
        refine ⟨_,rfl,?_⟩
        have n0_:=am (Kd.R_elder' d6 (Kd.R_base ho0) hb)
        have n1_:=am (Kd.N_elder' d13 (Kd.R_base ho0) hb)
        have n2_:=am (Kd.N_elder' d39 (Kd.R_base ho0) hb)
        have n3_:=am (Kd.R_elder' d38 (Kd.R_base ho0) hb)
        have n4_:=am (Kd.V_elder' d59 (Kd.R_base ho0) hb)
        have n5_:=am (Kd.V_elder' d58 (Kd.R_base ho0) hb)
        have n6_:=am (Kd.R_lower (Kd.R_new' (Kd.R_new' ho0 (Kd.R_lt d6)) (Kd.R_lt d38)) (pz (by repeat (first|(with_reducible first|exact HB.out|apply pa|apply pb|apply pd|refine pt ?_ GE183.out|refine pt ?_ GE184.out|refine pt ?_ GE187.out|refine pt ?_ GE214.out)|exact HB.out))))
        have n7_:=am (qb (g:=gb183) (o:=.cells #[.int .i64 a0_0, .int .i64 a0_1] 72 (0,0)) (by (with_reducible repeat (first|refine qn ?_ _|refine qd ?_|refine qa ?_ _));exact BK183.out) hb)
        have n8_:=am (qb (g:=gb184) (o:=.cells #[.int .i64 x185000_2, .slice none 0 0] 69 (0,0)) (by (with_reducible repeat (first|refine qn ?_ _|refine qd ?_|refine qa ?_ _));exact BK184.out) hb)
        have n9_:=am (qb (g:=gb187) (o:=.cells #[.slice Ao122 x188000_2.length co122] 43 (0,0)) (by (with_reducible repeat (first|refine qn ?_ _|refine qd ?_|refine qa ?_ _));exact BK187.out) hb)
        have n10_:=am (qb (g:=gb214) (o:=.cells #[.slice Ao125 t210.length co125] 43 (0,0)) (by (with_reducible repeat (first|refine qn ?_ _|refine qd ?_|refine qa ?_ _));exact BK214.out) hb)
        have n11_:=am (pu (by repeat (first|(with_reducible first|exact HB.out|apply pa|apply pb|apply pd|refine pt ?_ GE183.out|refine pt ?_ GE184.out|refine pt ?_ GE187.out|refine pt ?_ GE214.out)|exact HB.out)) hb)
        clear HO_10
        clear HO_188000
        clear HO212
        clear HO217
        clear HO222
        clear HO228
        clear BK183
        clear BK184
        clear BK187
        clear BK214
        clear HB
        have HO_10:=n0_
        have HO_188000:=n1_
        have HO212:=n2_
        have HO217:=n3_
        have HO222:=n4_
        have HO228:=n5_
        have HO231:=n6_
        have BK183:=n7_
        have BK184:=n8_
        have BK187:=n9_
        have BK214:=n10_
        have HB:=n11_
        clear n0_ n1_ n2_ n3_ n4_ n5_ n6_ n7_ n8_ n9_ n10_ n11_
        (try clear hb)
        (try clear hb2)
        (try clear hk)
        (try clear hi)
        (try clear ho0)
        obtain ⟨Ao138,co138,eo138⟩:=Kd.R_slice HO231.out
        (first|subst eo138|(injection eo138 with f1_ f2_ f3_;have f4_:=f1_.symm;have f5_:=f3_.symm;clear f1_ f2_ f3_;subst f4_;subst f5_))
        refine hK.out _ _ ⟨(blk_cell BK183.out 0).trans rfl,(blk_cell BK183.out 1).trans rfl⟩ (fun hHeld=>?_)
        clear hK K
        refine rN (a':=?_) ?_ ?_
        rotate_left
        ·show Act.put _ (some 111) _=_
         simp only [Act.put,q1,q2,q3,i64_w,i32_w]
         rfl
        refine rO (N:=some 112) HT_ rfl rfl d3 d8 (fun K hK=>?_)
        refine goes_ Try.func123 d3 rfl #[.slice Ao134 y218.length co134, .slice Ao138 t229.length co138] d20 rfl rfl d1 ?_
        with_reducible refine (spec_l1Add.calls k2 _ _ y218 _ _ t229 t232 _ ?side1 ?side2 ?side3 ?side4 A118.out).mono ?_
        (case side1=>repeat (first|exact (Kd.V_reads' HO222.out).2.2|(with_reducible refine Kd.C_alloc ?_ _)|(with_reducible refine Kd.C_drewN ?_ _)|(with_reducible refine Kd.C_drew ?_)))
        (case side2=>exact (Kd.V_reads' HO222.out).2.1)
        (case side3=>repeat (first|exact (Kd.R_reads' HO231.out).2.2|(with_reducible refine Kd.C_alloc ?_ _)|(with_reducible refine Kd.C_drewN ?_ _)|(with_reducible refine Kd.C_drew ?_)))
        (case side4=>exact (Kd.R_reads' HO231.out).2.1)
        rintro e w139 ⟨v233,rfl,ho0,hb⟩
        refine ⟨_,rfl,?_⟩
        have n0_:=am (Kd.R_elder' d6 (Kd.R_base ho0) hb)
        have n1_:=am (Kd.N_elder' d13 (Kd.R_base ho0) hb)
        have n2_:=am (Kd.N_elder' d39 (Kd.R_base ho0) hb)
        have n3_:=am (Kd.R_elder' d38 (Kd.R_base ho0) hb)
        have n4_:=am (Kd.V_elder' d59 (Kd.R_base ho0) hb)
        have n5_:=am (Kd.V_elder' d58 (Kd.R_base ho0) hb)
        have n6_:=am (Kd.R_elder' (by (with_reducible repeat (first|apply Kd.R_alloc|apply Kd.R_drewN|apply Kd.R_drew));exact HO231.out) (Kd.R_base ho0) hb)
        have n7_:=am (Kd.R_lower (Kd.R_new' (Kd.R_new' (Kd.R_new' ho0 (Kd.R_lt d6)) (Kd.R_lt d38)) (Kd.R_lt (by (with_reducible repeat (first|apply Kd.R_alloc|apply Kd.R_drewN|apply Kd.R_drew));exact HO231.out))) (pz (by repeat (first|(with_reducible first|exact HB.out|apply pa|apply pb|apply pd|refine pt ?_ GE183.out|refine pt ?_ GE184.out|refine pt ?_ GE187.out|refine pt ?_ GE214.out)|exact HB.out))))
        have n8_:=am (qb (g:=gb183) (o:=.cells #[.int .i64 a0_0, .int .i64 a0_1] 72 (0,0)) (by (with_reducible repeat (first|refine qn ?_ _|refine qd ?_|refine qa ?_ _));exact BK183.out) hb)
        have n9_:=am (qb (g:=gb184) (o:=.cells #[.int .i64 x185000_2, .slice none 0 0] 69 (0,0)) (by (with_reducible repeat (first|refine qn ?_ _|refine qd ?_|refine qa ?_ _));exact BK184.out) hb)
        have n10_:=am (qb (g:=gb187) (o:=.cells #[.slice Ao122 x188000_2.length co122] 43 (0,0)) (by (with_reducible repeat (first|refine qn ?_ _|refine qd ?_|refine qa ?_ _));exact BK187.out) hb)
        have n11_:=am (qb (g:=gb214) (o:=.cells #[.slice Ao125 t210.length co125] 43 (0,0)) (by (with_reducible repeat (first|refine qn ?_ _|refine qd ?_|refine qa ?_ _));exact BK214.out) hb)
        have n12_:=am (pu (by repeat (first|(with_reducible first|exact HB.out|apply pa|apply pb|apply pd|refine pt ?_ GE183.out|refine pt ?_ GE184.out|refine pt ?_ GE187.out|refine pt ?_ GE214.out)|exact HB.out)) hb)
        clear HO_10
        clear HO_188000
        clear HO212
        clear HO217
        clear HO222
        clear HO228
        clear HO231
        clear BK183
        clear BK184
        clear BK187
        clear BK214
        clear HB
        have HO_10:=n0_
        have HO_188000:=n1_
        have HO212:=n2_
        have HO217:=n3_
        have HO222:=n4_
        have HO228:=n5_
        have HO231:=n6_
        have HO234:=n7_
        have BK183:=n8_
        have BK184:=n9_
        have BK187:=n10_
        have BK214:=n11_
        have HB:=n12_
        clear n0_ n1_ n2_ n3_ n4_ n5_ n6_ n7_ n8_ n9_ n10_ n11_ n12_
        (try clear hb)
        (try clear hb2)
        (try clear hk)
        (try clear hi)
        (try clear ho0)
        obtain ⟨Ao140,co140,eo140⟩:=Kd.R_slice HO234.out
        (first|subst eo140|(injection eo140 with f1_ f2_ f3_;have f4_:=f1_.symm;have f5_:=f3_.symm;clear f1_ f2_ f3_;subst f4_;subst f5_))
        refine hK.out _ _ ⟨(blk_cell BK183.out 0).trans rfl,(blk_cell BK183.out 1).trans rfl⟩ (fun hHeld=>?_)
        clear hK K
        refine rN (a':=?_) ?_ ?_
        rotate_left
        ·show Act.put _ (some 112) _=_
         simp only [Act.put,q1,q2,q3,i64_w,i32_w]
         rfl
        refine rR ?_
        refine rO (N:=none) HT_ rfl rfl d3 d8 (fun K hK=>?_)
        have hs141:w139.cell? ⟨gb184,0,none⟩=some (.int .i64 x185000_2):=(blk_cell BK184.out 0).trans rfl
        have hfs141:=blk_frozen BK184.out 0
        have hns141_0:=NB183_184.out
        have hns141_2:=NB187_184.out
        have hns141_3:=NB214_184.out
        have hms141_0:=NB184_183.out
        have hms141_2:=NB184_187.out
        have hms141_3:=NB184_214.out
        have hs142:w139.cell? ⟨gb184,1,none⟩=some (.slice none 0 0):=(blk_cell BK184.out 1).trans rfl
        have hfs142:=blk_frozen BK184.out 1
        have hns142_0:=NB183_184.out
        have hns142_2:=NB187_184.out
        have hns142_3:=NB214_184.out
        have hms142_0:=NB184_183.out
        have hms142_2:=NB184_187.out
        have hms142_3:=NB184_214.out
        refine skip_ (w1:=?_) d20 rfl ?_ ?_
        rotate_left
        ·go_simp
         rfl
        refine hK.out _ _ ⟨((cell_far (p:=⟨gb184,_,none⟩) NB183_184.out _).trans (((cell_far (p:=⟨gb184,_,none⟩) NB183_184.out _).trans (hHeld.1)))),((cell_far (p:=⟨gb184,_,none⟩) NB183_184.out _).trans (((cell_far (p:=⟨gb184,_,none⟩) NB183_184.out _).trans (hHeld.2))))⟩ (fun hHeld=>?_)
        clear hK K
        refine rR ?_
        refine rD HT_ d3 ?_
        try go_wp2
        refine bodyPost_ret (results_ct rfl _ _ gb184 69 #[.int .i64 a1, .slice Ao140 t232.length co140] (0,0) _ rfl (by (with_reducible repeat (first|refine qn ?_ _|refine qd ?_|refine qa ?_ _));refine blk_put (cs:=#[.int .i64 a1, .slice none 0 0]) ?_ 1 _ rfl;(with_reducible repeat (first|refine qn ?_ _|refine qd ?_|refine qa ?_ _));refine blk_put (cs:=#[.int .i64 x185000_2, .slice none 0 0]) ?_ 0 _ rfl;(with_reducible repeat (first|refine qn ?_ _|refine qd ?_|refine qa ?_ _));exact BK184.out) Try.underlying69 rfl d3) rfl ?_
        exact ⟨_,by first|rfl|(simp [errW_none,errW_some] <;> rfl)|(simp only [← hji111];first|rfl|(simp [errW_none,errW_some] <;> rfl))|(simp [*,errW_none,errW_some] <;> rfl),by (with_reducible repeat (first|apply Kd.R_alloc|apply Kd.R_drewN|apply Kd.R_drew));exact Kd.R_mono (Kd.R_far (p:=⟨gb184,1,none⟩) (Kd.R_far (p:=⟨gb184,0,none⟩) (Kd.R_types HO234.out BK184.out d8) (fun _ hk=>hk.2) (.int .i64 a1)) (fun _ hk=>hk.2) (.slice Ao140 t232.length co140)) (fun _ hk=>trivial),by repeat (first|(with_reducible first|exact HB.out|apply pa|apply pb|apply pd|refine pt ?_ GE183.out|refine pt ?_ GE184.out|refine pt ?_ GE187.out|refine pt ?_ GE214.out)|exact HB.out)⟩
       rw [if_neg c113] at H
       exact absurd H d31
      rw [if_neg c112] at H
      exact absurd H d31
     replace c109:=Bool.eq_false_iff.mpr c109
     subst c109
     have H1:(some (0,([]:List Int),false))=some (r1,r2,r3):=by rw [if_neg (show ¬ (false=true) by decide)] at H;exact H
     clear H
     have H:=H1
     clear H1
     simp only [Option.some.injEq,Prod.mk.injEq] at H
     obtain ⟨rfl,rfl,rfl⟩:=H
     have hnb143:=NB187_183.out
     have hnc143:=NB183_187.out
     have hnb144:=NB187_184.out
     have hnc144:=NB184_187.out
     have hcz145_0:wr.cell? ⟨gb187,0,none⟩=some (u188000):=(blk_cell BK187.out 0).trans rfl
     have hfz145_0:=blk_frozen BK187.out 0
     obtain ⟨Ao146,co146,eo146⟩:=Kd.N_slice HO_188000.out
     subst eo146
     go_wp2_with (first|((with_reducible refine gate_callee (f:=91) rfl ?_);refine goesL_ (some 92) rfl rfl Try.func91 d3 rfl #[.agg #[.slice Ao146 x188000_2.length co146]] rfl d1 ?_;(with_reducible refine (spec_l2Inverse.calls _ _ x188000_2 t210 false _ ?side1 ?side2 A108.out).mono ?_);(case side1=>repeat (first|exact (Kd.N_reads' HO_188000.out).2.2|(with_reducible refine Kd.C_alloc ?_ _)|(with_reducible refine Kd.C_drewN ?_ _)|(with_reducible refine Kd.C_drew ?_)));(case side2=>exact (Kd.N_reads' HO_188000.out).2.1);rintro e w147 ⟨v211,rfl,ho0,hb⟩;refine ⟨_,rfl,?_⟩;have n0_:=am (Kd.R_below d6 hb);have n1_:=am (Kd.N_elder' d13 (by first|exact Kd.N_base ho0|exact Kd.S_base ho0|exact Kd.R_base ho0) hb);have n2_:=am (Kd.N_lower (Kd.N_mono (ok':=fun k_=>some k_ ≠ (u10:Value).ownBlock∧some k_ ≠ (.slice Ao146 x188000_2.length co146:Value).ownBlock∧k_ ≠ gb183∧k_ ≠ gb184∧k_ ≠ gb187) ho0 (fun k_ hk_=>⟨(Kd.fresh' (Kd.R_lt d6) k_ hk_),(Kd.fresh' (Kd.N_lt d13) k_ hk_),(Kd.freshB (g:=gb183) (o:=.cells #[.int .i64 a0_0, .int .i64 a0_1] 72 (0,0)) (by (with_reducible repeat (first|refine qn ?_ _|refine qd ?_|refine qa ?_ _));exact BK183.out) k_ hk_),(Kd.freshB (g:=gb184) (o:=.cells #[.int .i64 x185000_2, .slice none 0 0] 69 (0,0)) (by (with_reducible repeat (first|refine qn ?_ _|refine qd ?_|refine qa ?_ _));exact BK184.out) k_ hk_),(Kd.freshB (g:=gb187) (o:=.cells #[.slice Ao146 x188000_2.length co146] 43 (0,0)) (by (with_reducible repeat (first|refine qn ?_ _|refine qd ?_|refine qa ?_ _));exact BK187.out) k_ hk_)⟩)) (pz (by repeat (first|(with_reducible first|exact HB.out|apply pa|apply pb|apply pd|refine pt ?_ GE183.out|refine pt ?_ GE184.out|refine pt ?_ GE187.out)|exact HB.out))));have n3_:=am (qb (g:=gb183) (o:=.cells #[.int .i64 a0_0, .int .i64 a0_1] 72 (0,0)) (by (with_reducible repeat (first|refine qn ?_ _|refine qd ?_|refine qa ?_ _));exact BK183.out) hb);have n4_:=am (qb (g:=gb184) (o:=.cells #[.int .i64 x185000_2, .slice none 0 0] 69 (0,0)) (by (with_reducible repeat (first|refine qn ?_ _|refine qd ?_|refine qa ?_ _));exact BK184.out) hb);have n5_:=am (qb (g:=gb187) (o:=.cells #[.slice Ao146 x188000_2.length co146] 43 (0,0)) (by (with_reducible repeat (first|refine qn ?_ _|refine qd ?_|refine qa ?_ _));exact BK187.out) hb);have n6_:=am (pu (by repeat (first|(with_reducible first|exact HB.out|apply pa|apply pb|apply pd|refine pt ?_ GE183.out|refine pt ?_ GE184.out|refine pt ?_ GE187.out)|exact HB.out)) hb);clear HO_10;clear HO_188000;clear BK183;clear BK184;clear BK187;clear HB;have HO_10:=n0_;have HO_188000:=n1_;have HO212:=n2_;have BK183:=n3_;have BK184:=n4_;have BK187:=n5_;have HB:=n6_;clear n0_ n1_ n2_ n3_ n4_ n5_ n6_;(try clear hb);(try clear hb2);(try clear hk);(try clear hi);(try clear ho0))|((with_reducible refine gate_dst (N:=13) rfl ?_);(try (refine gate_guard d20 ?_;dsimp only));refine box_event ?hg (N:=13) ?hd (cs:=#[.slice none 0 0]) (t:=43) ?hr ?_;(case hd=>rfl);(case hg=>rfl);(case hr=>first|(go_simp;done)|(go_simp;rfl));intro gb214 hg w148 hbox hb;have n0_:=am (Kd.R_below d6 hb);have n1_:=am (Kd.N_below (Kd.N_elderB d13 gb214 (Nat.le_of_eq hg.symm)) hb);have n2_:=am (Kd.N_below (Kd.N_elderB d39 gb214 (Nat.le_of_eq hg.symm)) hb);have n3_:=am (qb (g:=gb183) (o:=.cells #[.int .i64 a0_0, .int .i64 a0_1] 72 (0,0)) (by (with_reducible repeat (first|refine qn ?_ _|refine qd ?_|refine qa ?_ _));exact BK183.out) hb);have n4_:=am (qb (g:=gb184) (o:=.cells #[.int .i64 x185000_2, .slice none 0 0] 69 (0,0)) (by (with_reducible repeat (first|refine qn ?_ _|refine qd ?_|refine qa ?_ _));exact BK184.out) hb);have n5_:=am (qb (g:=gb187) (o:=.cells #[.slice Ao146 x188000_2.length co146] 43 (0,0)) (by (with_reducible repeat (first|refine qn ?_ _|refine qd ?_|refine qa ?_ _));exact BK187.out) hb);have n6_:=am (pu (by repeat (first|(with_reducible first|exact HB.out|apply pa|apply pb|apply pd|refine pt ?_ GE183.out|refine pt ?_ GE184.out|refine pt ?_ GE187.out)|exact HB.out)) hb);have n7_:=am (hbox);have n8_:=am ((by rw [hg];exact (pz (by repeat (first|(with_reducible first|exact HB.out|apply pa|apply pb|apply pd|refine pt ?_ GE183.out|refine pt ?_ GE184.out|refine pt ?_ GE187.out)|exact HB.out))):w.heap.size≤gb214));have n9_:=n8_;have n10_:=am ((by rw [hg];exact Nat.ne_of_lt (blk_lt (g:=gb183) (o:=.cells #[.int .i64 a0_0, .int .i64 a0_1] 72 (0,0)) (by (with_reducible repeat (first|refine qn ?_ _|refine qd ?_|refine qa ?_ _));exact BK183.out)):gb183 ≠ gb214));have n11_:=am ((by rw [hg];exact Nat.ne_of_gt (blk_lt (g:=gb183) (o:=.cells #[.int .i64 a0_0, .int .i64 a0_1] 72 (0,0)) (by (with_reducible repeat (first|refine qn ?_ _|refine qd ?_|refine qa ?_ _));exact BK183.out)):gb214 ≠ gb183));have n12_:=am ((by rw [hg];exact Nat.ne_of_lt (blk_lt (g:=gb184) (o:=.cells #[.int .i64 x185000_2, .slice none 0 0] 69 (0,0)) (by (with_reducible repeat (first|refine qn ?_ _|refine qd ?_|refine qa ?_ _));exact BK184.out)):gb184 ≠ gb214));have n13_:=am ((by rw [hg];exact Nat.ne_of_gt (blk_lt (g:=gb184) (o:=.cells #[.int .i64 x185000_2, .slice none 0 0] 69 (0,0)) (by (with_reducible repeat (first|refine qn ?_ _|refine qd ?_|refine qa ?_ _));exact BK184.out)):gb214 ≠ gb184));have n14_:=am ((by rw [hg];exact Nat.ne_of_lt (blk_lt (g:=gb187) (o:=.cells #[.slice Ao146 x188000_2.length co146] 43 (0,0)) (by (with_reducible repeat (first|refine qn ?_ _|refine qd ?_|refine qa ?_ _));exact BK187.out)):gb187 ≠ gb214));have n15_:=am ((by rw [hg];exact Nat.ne_of_gt (blk_lt (g:=gb187) (o:=.cells #[.slice Ao146 x188000_2.length co146] 43 (0,0)) (by (with_reducible repeat (first|refine qn ?_ _|refine qd ?_|refine qa ?_ _));exact BK187.out)):gb214 ≠ gb187));clear HO_10;clear HO_188000;clear HO212;clear BK183;clear BK184;clear BK187;clear HB;have HO_10:=n0_;have HO_188000:=n1_;have HO212:=n2_;have BK183:=n3_;have BK184:=n4_;have BK187:=n5_;have HB:=n6_;have BK214:=n7_;have GW214:=n8_;have GE214:=n9_;have NB183_214:=n10_;have NB214_183:=n11_;have NB184_214:=n12_;have NB214_184:=n13_;have NB187_214:=n14_;have NB214_187:=n15_;clear n0_ n1_ n2_ n3_ n4_ n5_ n6_ n7_ n8_ n9_ n10_ n11_ n12_ n13_ n14_ n15_;clear hb hbox hg;obtain ⟨Ao149,co149,eo149⟩:=Kd.N_slice HO212.out;subst eo149;have hnb150:=NB214_183.out;have hnc150:=NB183_214.out;have hnb151:=NB214_184.out;have hnc151:=NB184_214.out;have hnb152:=NB214_187.out;have hnc152:=NB187_214.out;have hcz153_0:w148.cell? ⟨gb214,0,none⟩=some (.slice none 0 0):=(blk_cell BK214.out 0).trans rfl;have hfz153_0:=blk_frozen BK214.out 0;have hnb154:=NB184_183.out;have hnc154:=NB183_184.out;have hcz155_0:w148.cell? ⟨gb184,0,none⟩=some (.int .i64 x185000_2):=(blk_cell BK184.out 0).trans rfl;have hcz155_1:w148.cell? ⟨gb184,1,none⟩=some (.slice none 0 0):=(blk_cell BK184.out 1).trans rfl;have hfz155_0:=blk_frozen BK184.out 0;have hfz155_1:=blk_frozen BK184.out 1))
     refine bodyPost_ret (results_ct rfl _ _ gb184 69 #[.int .i64 0, .slice none 0 0] (0,0) _ rfl (by (with_reducible repeat (first|refine qn ?_ _|refine qd ?_|refine qa ?_ _));refine blk_put (cs:=#[.int .i64 0, .slice none 0 0]) ?_ 1 _ rfl;(with_reducible repeat (first|refine qn ?_ _|refine qd ?_|refine qa ?_ _));refine blk_put (cs:=#[.int .i64 x185000_2, .slice none 0 0]) ?_ 0 _ rfl;(with_reducible repeat (first|refine qn ?_ _|refine qd ?_|refine qa ?_ _));refine blk_far ?_ NB184_214.out _;(with_reducible repeat (first|refine qn ?_ _|refine qd ?_|refine qa ?_ _));exact BK184.out) Try.underlying69 rfl d3) rfl ?_
     exact ⟨_,d5,d14,by repeat (first|(with_reducible first|exact HB.out|apply pa|apply pb|apply pd|refine pt ?_ GE183.out|refine pt ?_ GE184.out|refine pt ?_ GE187.out|refine pt ?_ GE214.out)|exact HB.out)⟩

end Go.Proofs.Ytajikfnpcobnpaa.PFnExactRegeneratePiece
-- SQUEEZED
-- SQUEEZED2
-- SQUEEZED3
-- SQUEEZED4
-- SQUEEZED5
-- SQUEEZED6
