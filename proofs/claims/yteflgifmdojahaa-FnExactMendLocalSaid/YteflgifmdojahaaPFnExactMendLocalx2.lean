-- Laid by a program of this session.
import Derived.Test.YteflgifmdojahaaPFnExactMendLocalx0
import Derived.Test.YteflgifmdojahaaPFnExactMendLocalx1
namespace Go.Proofs.Yteflgifmdojahaa.PFnExactMendLocal
open Go.RowKit Go.Proofs.YteflgifmdojahaaW.PrintWords Go.Proofs.YteflgifmdojahaaW.PrintLast Go.Proofs.YteflgifmdojahaaW.PrintMore
attribute [local go_sem] max2_int min2_int max_two min_two max_three min_three max_four min_four   -- for this text's walks alone
set_option linter.unusedVariables false
set_option maxHeartbeats 8000000
set_option maxRecDepth 100000
set_option linter.unusedSimpArgs false

mutual
def spec_HelpersOf.j0:Nat→Int→Bool→Int→Int→Int→Option (List Int × Bool)
 | 0,_,_,_,_,_=>none
 | k+1,x1,x16,x116000,x116001,x116002=>if x16=true then (some (([]:List Int),false)) else (spec_HelpersOf.l0 k x1 ([]:List Int) 0 x116000 x116001 x116002)
def spec_HelpersOf.l0:Nat→Int→List Int→Int→Int→Int→Int→Option (List Int × Bool)
 | 0,_,_,_,_,_,_=>none
 | k+1,x1,x6,x7,x116000,x116001,x116002=>(spec_l4Many.f x116000 x116001 x116002).bind fun t118=>(if x7 < t118 then (if x7=x1 then (spec_HelpersOf.l0 k x1 x6 (wrap64 (x7+1)) x116000 x116001 x116002) else ((spec_l4Group.f x116000 x116001 x116002 x7).bind fun t119=>((spec_l4Group.f x116000 x116001 x116002 x1).bind fun t120=>(if t119=t120 then (if x6.length < 17592186044416 then (spec_HelpersOf.l0 k x1 (x6 ++ [x7]) (wrap64 (x7+1)) x116000 x116001 x116002) else (none)) else (spec_HelpersOf.l0 k x1 x6 (wrap64 (x7+1)) x116000 x116001 x116002))))) else (some (x6,true)))
end
def spec_HelpersOf.f (k:Nat) (a0_0:Int) (a0_1:Int) (a0_2:Int) (a1:Int):Option (List Int × Bool):=(spec_GoodLocal.f a0_0 a0_1 a0_2).bind fun t116=>(if t116=true then ((spec_l4Group.f a0_0 a0_1 a0_2 a1).bind fun t117=>(spec_HelpersOf.j0 k a1 (decide (t117 < 0)) a0_0 a0_1 a0_2)) else (spec_HelpersOf.j0 k a1 true a0_0 a0_1 a0_2))
theorem spec_HelpersOf.mono_l:∀ k,(∀ y0 y1 y2 y3 y4,LeO (spec_HelpersOf.j0 k y0 y1 y2 y3 y4) (spec_HelpersOf.j0 (k+1) y0 y1 y2 y3 y4))∧(∀ y0 y1 y2 y3 y4 y5,LeO (spec_HelpersOf.l0 k y0 y1 y2 y3 y4 y5) (spec_HelpersOf.l0 (k+1) y0 y1 y2 y3 y4 y5))
 | 0=>⟨fun _ _ _ _ _ r h=>by simp [spec_HelpersOf.j0] at h,fun _ _ _ _ _ _ r h=>by simp [spec_HelpersOf.l0] at h⟩
 | k+1=>by
  obtain ⟨ih0,ih1⟩:=spec_HelpersOf.mono_l k
  refine ⟨?_,?_⟩
  ·intro y0 y1 y2 y3 y4
   unfold spec_HelpersOf.j0
   repeat' first
   | (with_reducible exact ih0 _ _ _ _ _)
   | (with_reducible exact ih1 _ _ _ _ _ _)
   |(with_reducible exact LeO.refl _)|(with_reducible exact LeO.none _)|(with_reducible refine LeO.ite ?_ ?_)|(with_reducible refine LeO.bind ?_ (fun _=>?_))|exact ih0 _ _ _ _ _|exact ih1 _ _ _ _ _ _|exact LeO.none _|refine LeO.ite ?_ ?_|refine LeO.bind ?_ (fun _=>?_)
  intro y0 y1 y2 y3 y4 y5
  unfold spec_HelpersOf.l0
  repeat' first
  | (with_reducible exact ih0 _ _ _ _ _)
  | (with_reducible exact ih1 _ _ _ _ _ _)
  |(with_reducible exact LeO.refl _)|(with_reducible exact LeO.none _)|(with_reducible refine LeO.ite ?_ ?_)|(with_reducible refine LeO.bind ?_ (fun _=>?_))|exact ih0 _ _ _ _ _|exact ih1 _ _ _ _ _ _|exact LeO.none _|refine LeO.ite ?_ ?_|refine LeO.bind ?_ (fun _=>?_)
theorem spec_HelpersOf.mono:∀ a0 a1 a2 a3 k,LeO (spec_HelpersOf.f k a0 a1 a2 a3) (spec_HelpersOf.f (k+1) a0 a1 a2 a3):=by
 intro a0 a1 a2 a3 k
 obtain ⟨ih0,ih1⟩:=spec_HelpersOf.mono_l k
 unfold spec_HelpersOf.f
 repeat' first
   | (with_reducible exact ih0 _ _ _ _ _)
   | (with_reducible exact ih1 _ _ _ _ _ _)
   |(with_reducible exact LeO.refl _)|(with_reducible exact LeO.none _)|(with_reducible refine LeO.ite ?_ ?_)|(with_reducible refine LeO.bind ?_ (fun _=>?_))|exact ih0 _ _ _ _ _|exact ih1 _ _ _ _ _ _|exact LeO.none _|refine LeO.ite ?_ ?_|refine LeO.bind ?_ (fun _=>?_)
def spec_HelpersOf.T7:Bool × List (List Nat × List Nat):=(true,[([],[]),([],[]),([0,1],[0,1]),([2],[2]),([3],[3]),([3],[3]),([4,5,3,3],[3,4,5]),([3],[3]),([3],[3]),([7,8,6,3],[3,7,8]),([6,9,3],[3,6,9]),([3,10],[3,10])])
def spec_HelpersOf.B7:List Nat:=[0,0,3,7,15,15,63,15,15,511,1023,2047]
theorem spec_HelpersOf.tab7:rtab .any (opsOf Try.f70 7)=spec_HelpersOf.T7:=by kernel_rfl
theorem spec_HelpersOf.bits7:waitsOk spec_HelpersOf.T7.2 spec_HelpersOf.B7=true:=by kernel_rfl
theorem spec_HelpersOf.calls (k:Nat) (a0_0:Int) (a0_1:Int) (a0_2:Int) (a1:Int) (r1:List Int) (r2:Bool) (w:World) (h:spec_HelpersOf.f k a0_0 a0_1 a0_2 a1=some (r1,r2)) :
  Calls Try.prog 70 #[.agg #[.int .i64 a0_0, .int .i64 a0_1, .int .i64 a0_2], .int .i64 a1] w fun e w'=>∃ v0_:Value,e = .returned (.tuple #[v0_, .bool r2])∧Kd.R (Kd.int .i64) 3 w' w.heap.size (fun _=>True) v0_ r1∧Below w.heap.size w w':=by
 have hu51:=Try.underlying51
 have HB:=am (Below.refl w.heap.size w)
 have H:((spec_GoodLocal.f a0_0 a0_1 a0_2).bind fun t116=>(if t116=true then ((spec_l4Group.f a0_0 a0_1 a0_2 a1).bind fun t117=>(spec_HelpersOf.j0 k a1 (decide (t117 < 0)) a0_0 a0_1 a0_2)) else (spec_HelpersOf.j0 k a1 true a0_0 a0_1 a0_2)))=some (r1,r2):=h
 clear h
 have HC3:=am H
 clear H
 go_enter Try.func70,Try.ntmps70
 go_upto_region 1 with (first|((with_reducible refine gate_dst (N:=2) rfl ?_);refine box_event ?hg (N:=2) ?hd (cs:=#[.int .i64 a0_0, .int .i64 a0_1, .int .i64 a0_2]) (t:=51) ?hr ?_;(case hd=>rfl);(case hg=>rfl);(case hr=>first|(go_simp;done)|(go_simp;rfl));intro gb115 hg w4 hbox hb;have n0_:=am (pu d0 hb);have n1_:=am (hbox);have n2_:=am ((by rw [hg];exact (pz d0):w.heap.size≤gb115));have n3_:=n2_;clear HB;have HB:=n0_;have BK115:=n1_;have GW115:=n2_;have GE115:=n3_;clear n0_ n1_ n2_ n3_;clear hb hbox hg))
 (try simp only [Act.put,q1,q2,q3])
 go_cut [16] (fun v16 wc=>∃ (kq:Nat) (x16_2:Bool),v16 = .bool x16_2∧Aside0 (spec_HelpersOf.j0 kq a1 x16_2 a0_0 a0_1 a0_2=some (r1,r2))∧Aside0 (kq≤k)∧Aside0 (wc.heap[gb115]? = some (.cells #[.int .i64 a0_0, .int .i64 a0_1, .int .i64 a0_2] 51 (0,0)))∧Aside0 (Below w.heap.size w wc))
 case first =>
  have H:=HC3.out
  clear HC3
  replace H:=Option.bind_eq_some_iff.mp H
  obtain ⟨t116,A50,H⟩:=H
  replace H:(if t116=true then ((spec_l4Group.f a0_0 a0_1 a0_2 a1).bind fun t117=>(spec_HelpersOf.j0 k a1 (decide (t117 < 0)) a0_0 a0_1 a0_2)) else (spec_HelpersOf.j0 k a1 true a0_0 a0_1 a0_2))=some (r1,r2):=H
  have A5:=am A50
  clear A50
  by_cases c6:t116=true
  ·subst c6
   have H1:((spec_l4Group.f a0_0 a0_1 a0_2 a1).bind fun t117=>(spec_HelpersOf.j0 k a1 (decide (t117 < 0)) a0_0 a0_1 a0_2))=some (r1,r2):=by rw [if_pos rfl] at H;exact H
   clear H
   have H:=H1
   clear H1
   replace H:=Option.bind_eq_some_iff.mp H
   obtain ⟨t117,A70,H⟩:=H
   replace H:(spec_HelpersOf.j0 k a1 (decide (t117 < 0)) a0_0 a0_1 a0_2)=some (r1,r2):=H
   have A7:=am A70
   clear A70
   have H':=am H
   clear H
   have hcz8_0:w4.cell? ⟨gb115,0,none⟩=some (.int .i64 a0_0):=(blk_cell BK115.out 0).trans rfl
   have hcz8_1:w4.cell? ⟨gb115,1,none⟩=some (.int .i64 a0_1):=(blk_cell BK115.out 1).trans rfl
   have hcz8_2:w4.cell? ⟨gb115,2,none⟩=some (.int .i64 a0_2):=(blk_cell BK115.out 2).trans rfl
   have hfz8_0:=blk_frozen BK115.out 0
   have hfz8_1:=blk_frozen BK115.out 1
   have hfz8_2:=blk_frozen BK115.out 2
   go_wp2_with (first|((with_reducible refine gate_callee (f:=128) rfl ?_);refine goesL_ (some 9) rfl rfl Try.func128 d5 rfl #[.agg #[.int .i64 a0_0, .int .i64 a0_1, .int .i64 a0_2]] rfl d1 ?_;(with_reducible refine (spec_GoodLocal.calls a0_0 a0_1 a0_2 true _ A5.out).mono ?_);rintro e w9 ⟨rfl,hb⟩;refine ⟨_,rfl,?_⟩;have n0_:=am (qb (g:=gb115) (o:=.cells #[.int .i64 a0_0, .int .i64 a0_1, .int .i64 a0_2] 51 (0,0)) (by (with_reducible repeat (first|refine qn ?_ _|refine qd ?_|refine qa ?_ _));exact BK115.out) hb);have n1_:=am (pu (by repeat (first|(with_reducible first|exact HB.out|apply pa|apply pb|apply pd|refine pt ?_ GE115.out)|exact HB.out)) hb);clear BK115;clear HB;have BK115:=n0_;have HB:=n1_;clear n0_ n1_;(try clear hb);(try clear hb2);(try clear hk);(try clear hi);have hcz10_0:w9.cell? ⟨gb115,0,none⟩=some (.int .i64 a0_0):=(blk_cell BK115.out 0).trans rfl;have hcz10_1:w9.cell? ⟨gb115,1,none⟩=some (.int .i64 a0_1):=(blk_cell BK115.out 1).trans rfl;have hcz10_2:w9.cell? ⟨gb115,2,none⟩=some (.int .i64 a0_2):=(blk_cell BK115.out 2).trans rfl;have hfz10_0:=blk_frozen BK115.out 0;have hfz10_1:=blk_frozen BK115.out 1;have hfz10_2:=blk_frozen BK115.out 2)|(go_at_call 129;(with_reducible refine (spec_l4Group.calls a0_0 a0_1 a0_2 a1 t117 _ A7.out).mono ?_);rintro e w11 ⟨rfl,hb⟩;have n0_:=am (qb (g:=gb115) (o:=.cells #[.int .i64 a0_0, .int .i64 a0_1, .int .i64 a0_2] 51 (0,0)) (by (with_reducible repeat (first|refine qn ?_ _|refine qd ?_|refine qa ?_ _));exact BK115.out) hb);have n1_:=am (pu (by repeat (first|(with_reducible first|exact HB.out|apply pa|apply pb|apply pd|refine pt ?_ GE115.out)|exact HB.out)) hb);clear BK115;clear HB;have BK115:=n0_;have HB:=n1_;clear n0_ n1_;(try clear hb);(try clear hb2);(try clear hk);(try clear hi)))
   go_meet
   case rel=>exact ⟨_,(decide (t117 < 0)),d4,H',⟨d25⟩,⟨by (with_reducible repeat (first|refine qn ?_ _|refine qd ?_|refine qa ?_ _));exact BK115.out⟩,⟨by repeat (first|(with_reducible first|exact HB.out|apply pa|apply pb|apply pd|refine pt ?_ GE115.out)|exact HB.out)⟩⟩
  replace c6:=Bool.eq_false_iff.mpr c6
  subst c6
  have H1:(spec_HelpersOf.j0 k a1 true a0_0 a0_1 a0_2)=some (r1,r2):=by rw [if_neg (show ¬ (false=true) by decide)] at H;exact H
  clear H
  have H:=H1
  clear H1
  have H':=am H
  clear H
  have hcz12_0:w4.cell? ⟨gb115,0,none⟩=some (.int .i64 a0_0):=(blk_cell BK115.out 0).trans rfl
  have hcz12_1:w4.cell? ⟨gb115,1,none⟩=some (.int .i64 a0_1):=(blk_cell BK115.out 1).trans rfl
  have hcz12_2:w4.cell? ⟨gb115,2,none⟩=some (.int .i64 a0_2):=(blk_cell BK115.out 2).trans rfl
  have hfz12_0:=blk_frozen BK115.out 0
  have hfz12_1:=blk_frozen BK115.out 1
  have hfz12_2:=blk_frozen BK115.out 2
  go_wp2_with (first|((with_reducible refine gate_callee (f:=128) rfl ?_);refine goesL_ (some 9) rfl rfl Try.func128 d5 rfl #[.agg #[.int .i64 a0_0, .int .i64 a0_1, .int .i64 a0_2]] rfl d1 ?_;(with_reducible refine (spec_GoodLocal.calls a0_0 a0_1 a0_2 false _ A5.out).mono ?_);rintro e w13 ⟨rfl,hb⟩;refine ⟨_,rfl,?_⟩;have n0_:=am (qb (g:=gb115) (o:=.cells #[.int .i64 a0_0, .int .i64 a0_1, .int .i64 a0_2] 51 (0,0)) (by (with_reducible repeat (first|refine qn ?_ _|refine qd ?_|refine qa ?_ _));exact BK115.out) hb);have n1_:=am (pu (by repeat (first|(with_reducible first|exact HB.out|apply pa|apply pb|apply pd|refine pt ?_ GE115.out)|exact HB.out)) hb);clear BK115;clear HB;have BK115:=n0_;have HB:=n1_;clear n0_ n1_;(try clear hb);(try clear hb2);(try clear hk);(try clear hi)))
  go_meet
  case rel=>exact ⟨_,(true),d4,H',⟨d25⟩,⟨by (with_reducible repeat (first|refine qn ?_ _|refine qd ?_|refine qa ?_ _));exact BK115.out⟩,⟨by repeat (first|(with_reducible first|exact HB.out|apply pa|apply pb|apply pd|refine pt ?_ GE115.out)|exact HB.out)⟩⟩
 case rest =>
  clear HC3
  try clear c1
  try clear p2
  try clear c6
  try clear c7
  try clear c12
  try clear hcz10_0
  try clear hcz10_1
  try clear hcz10_2
  try clear hcz12_0
  try clear hcz12_1
  try clear hcz12_2
  try clear hcz8_0
  try clear hcz8_1
  try clear hcz8_2
  try clear hfz10_0
  try clear hfz10_1
  try clear hfz10_2
  try clear hfz12_0
  try clear hfz12_1
  try clear hfz12_2
  try clear hfz8_0
  try clear hfz8_1
  try clear hfz8_2
  obtain ⟨kq,x16_2,rfl,HA,HJ2,BK115,HB⟩:=hcut
  cases kq with
  | zero=>exact absurd HA.out (by simp [spec_HelpersOf.j0])
  | succ kj2 =>
   have H:=HA.out
   clear HA
   simp only [spec_HelpersOf.j0] at H
   by_cases c14:x16_2=true
   ·subst c14
    have H1:(some (([]:List Int),false))=some (r1,r2):=by rw [if_pos rfl] at H;exact H
    clear H
    have H:=H1
    clear H1
    simp only [Option.some.injEq,Prod.mk.injEq] at H
    obtain ⟨rfl,rfl⟩:=H
    go_wp2
    go_ret2
    exact ⟨_,d2,d15,by repeat (first|(with_reducible first|exact HB.out|apply pa|apply pb|apply pd|refine pt ?_ GE115.out)|exact HB.out)⟩
   replace c14:=Bool.eq_false_iff.mpr c14
   subst c14
   have H1:(spec_HelpersOf.l0 kj2 a1 ([]:List Int) 0 a0_0 a0_1 a0_2)=some (r1,r2):=by rw [if_neg (show ¬ (false=true) by decide)] at H;exact H
   clear H
   have H:=H1
   clear H1
   have H':=am H
   clear H
   go_wp2
   go_loopg [6,7] kj2 (fun kq v6 v7 w'=>∃ (x6_2:List Int) (x7_2:Int),v7 = .int .i64 x7_2∧Aside0 (spec_HelpersOf.l0 kq a1 x6_2 x7_2 a0_0 a0_1 a0_2=some (r1,r2))∧Aside0 (kq≤kj2)∧Aside0 (Kd.R (Kd.int .i64) 3 w' w.heap.size (fun _=>True) v6 x6_2)∧Aside0 (w'.heap[gb115]? = some (.cells #[.int .i64 a0_0, .int .i64 a0_1, .int .i64 a0_2] 51 (0,0)))∧Aside0 (Below w.heap.size w w'))
   case atStart=>exact ⟨(([]:List Int)),(0),d4,H',⟨Nat.le_refl _⟩,⟨d15⟩,⟨by (with_reducible repeat (first|refine qn ?_ _|refine qd ?_|refine qa ?_ _));exact BK115.out⟩,⟨by repeat (first|(with_reducible first|exact HB.out|apply pa|apply pb|apply pd|refine pt ?_ GE115.out)|exact HB.out)⟩⟩
   case round =>
    clear H'
    try clear c1
    try clear p2
    try clear c6
    try clear c7
    try clear c12
    try clear c14
    try clear hcz10_0
    try clear hcz10_1
    try clear hcz10_2
    try clear hcz12_0
    try clear hcz12_1
    try clear hcz12_2
    try clear hcz8_0
    try clear hcz8_1
    try clear hcz8_2
    try clear hfz10_0
    try clear hfz10_1
    try clear hfz10_2
    try clear hfz12_0
    try clear hfz12_1
    try clear hfz12_2
    try clear hfz8_0
    try clear hfz8_1
    try clear hfz8_2
    try clear p2
    obtain ⟨x6_2,x7_2,rfl,HA,HK2,HO_6,BK115,HB⟩:=hrel
    cases gk with
    | zero=>exact absurd HA.out (by simp [spec_HelpersOf.l0])
    | succ k2 =>
     have H:=HA.out
     clear HA
     simp only [spec_HelpersOf.l0] at H
     replace H:=Option.bind_eq_some_iff.mp H
     obtain ⟨t118,A150,H⟩:=H
     replace H:(if x7_2 < t118 then (if x7_2=a1 then (spec_HelpersOf.l0 k2 a1 x6_2 (wrap64 (x7_2+1)) a0_0 a0_1 a0_2) else ((spec_l4Group.f a0_0 a0_1 a0_2 x7_2).bind fun t119=>((spec_l4Group.f a0_0 a0_1 a0_2 a1).bind fun t120=>(if t119=t120 then (if x6_2.length < 17592186044416 then (spec_HelpersOf.l0 k2 a1 (x6_2 ++ [x7_2]) (wrap64 (x7_2+1)) a0_0 a0_1 a0_2) else (none)) else (spec_HelpersOf.l0 k2 a1 x6_2 (wrap64 (x7_2+1)) a0_0 a0_1 a0_2))))) else (some (x6_2,true)))=some (r1,r2):=H
     have A15:=am A150
     clear A150
     by_cases c16:x7_2 < t118
     ·rw [if_pos c16] at H
      have c16b0:decide (x7_2 < t118)=true:=decide_eq_true c16
      clear c16
      by_cases c17:x7_2=a1
      ·rw [if_pos c17] at H
       have c17b0:(x7_2 == a1)=true:=beq_iff_eq.mpr c17
       have c17b1:(x7_2 != a1)=false:=bne_eq_false_iff_eq.mpr c17
       clear c17
       have H':=am H
       clear H
       have hcz18_0:wr.cell? ⟨gb115,0,none⟩=some (.int .i64 a0_0):=(blk_cell BK115.out 0).trans rfl
       have hcz18_1:wr.cell? ⟨gb115,1,none⟩=some (.int .i64 a0_1):=(blk_cell BK115.out 1).trans rfl
       have hcz18_2:wr.cell? ⟨gb115,2,none⟩=some (.int .i64 a0_2):=(blk_cell BK115.out 2).trans rfl
       have hfz18_0:=blk_frozen BK115.out 0
       have hfz18_1:=blk_frozen BK115.out 1
       have hfz18_2:=blk_frozen BK115.out 2
       try go_wp2_with (first|((with_reducible refine gate_callee (f:=72) rfl ?_);refine goesL_ (some 19) rfl rfl Try.func72 d5 rfl #[.agg #[.int .i64 a0_0, .int .i64 a0_1, .int .i64 a0_2]] rfl d1 ?_;(with_reducible refine (spec_l4Many.calls a0_0 a0_1 a0_2 t118 _ A15.out).mono ?_);rintro e w19 ⟨rfl,hb⟩;refine ⟨_,rfl,?_⟩;have n0_:=am (Kd.R_below d6 hb);have n1_:=am (qb (g:=gb115) (o:=.cells #[.int .i64 a0_0, .int .i64 a0_1, .int .i64 a0_2] 51 (0,0)) (by (with_reducible repeat (first|refine qn ?_ _|refine qd ?_|refine qa ?_ _));exact BK115.out) hb);have n2_:=am (pu (by repeat (first|(with_reducible first|exact HB.out|apply pa|apply pb|apply pd|refine pt ?_ GE115.out)|exact HB.out)) hb);clear HO_6;clear BK115;clear HB;have HO_6:=n0_;have BK115:=n1_;have HB:=n2_;clear n0_ n1_ n2_;(try clear hb);(try clear hb2);(try clear hk);(try clear hi)))
       have n0_:=am (Kd.R_drew HO_6.out)
       have n1_:=am (qd BK115.out)
       have n2_:=am (pd HB.out)
       clear HO_6
       clear BK115
       clear HB
       have HO_6:=n0_
       have BK115:=n1_
       have HB:=n2_
       clear n0_ n1_ n2_
       refine rS (n:=12) (S:=fun w'=>True) (ds:=[]) [(0,23),(1,24),(2,25),(3,26),(4,27),(5,28),(6,29),(7,30),(8,31),(9,32),(10,33),(11,34)] d5 rfl spec_HelpersOf.tab7 spec_HelpersOf.bits7 trivial (fun hHeld HT_ HW_=>?_)
       generalize w19.drew=w20 at HO_6 BK115 HB hHeld ⊢
       refine rR ?_
       refine rD HT_ d5 ?_
       try go_wp2
       go_roundg k2
       case measure=>have:=HJ2.out;have:=HK2.out;omega
       case rel=>exact ⟨(x6_2),(wrap64 (x7_2+1)),d4,H',⟨by have:=HJ2.out;have:=HK2.out;omega⟩,⟨d6⟩,⟨by (with_reducible repeat (first|refine qn ?_ _|refine qd ?_|refine qa ?_ _));exact BK115.out⟩,⟨by repeat (first|(with_reducible first|exact HB.out|apply pa|apply pb|apply pd|refine pt ?_ GE115.out)|exact HB.out)⟩⟩
      rw [if_neg c17] at H
      have c17b0:(x7_2 == a1)=false:=beq_eq_false_iff_ne.mpr c17
      have c17b1:(x7_2 != a1)=true:=bne_iff_ne.mpr c17
      replace H:=Option.bind_eq_some_iff.mp H
      obtain ⟨t119,A210,H⟩:=H
      replace H:((spec_l4Group.f a0_0 a0_1 a0_2 a1).bind fun t120=>(if t119=t120 then (if x6_2.length < 17592186044416 then (spec_HelpersOf.l0 k2 a1 (x6_2 ++ [x7_2]) (wrap64 (x7_2+1)) a0_0 a0_1 a0_2) else (none)) else (spec_HelpersOf.l0 k2 a1 x6_2 (wrap64 (x7_2+1)) a0_0 a0_1 a0_2)))=some (r1,r2):=H
      have A21:=am A210
      clear A210
      replace H:=Option.bind_eq_some_iff.mp H
      obtain ⟨t120,A220,H⟩:=H
      replace H:(if t119=t120 then (if x6_2.length < 17592186044416 then (spec_HelpersOf.l0 k2 a1 (x6_2 ++ [x7_2]) (wrap64 (x7_2+1)) a0_0 a0_1 a0_2) else (none)) else (spec_HelpersOf.l0 k2 a1 x6_2 (wrap64 (x7_2+1)) a0_0 a0_1 a0_2))=some (r1,r2):=H
      have A22:=am A220
      clear A220
      by_cases c23:t119=t120
      ·rw [if_pos c23] at H
       have c23b0:(t119 == t120)=true:=beq_iff_eq.mpr c23
       have c23b1:(t119 != t120)=false:=bne_eq_false_iff_eq.mpr c23
       clear c23
       by_cases c24:x6_2.length < 17592186044416
       ·rw [if_pos c24] at H
        have LMc24:=am c24
        clear c24
        obtain ⟨y121,hy121⟩:∃ y_:List Int,y_=(x6_2 ++ [x7_2]):=⟨_,rfl⟩
        replace H:(spec_HelpersOf.l0 k2 a1 y121 (wrap64 (x7_2+1)) a0_0 a0_1 a0_2)=some (r1,r2):=by first|(rw [hy121];with_reducible exact H)|(have H2_:=(Option.bind_some _ _).symm.trans H;rw [hy121];with_reducible exact H2_)|(have H2_:=(Option.bind_some _ _).symm.trans H;with_reducible exact H2_)|with_reducible exact H|(rw [hy121];exact H)|exact H
        have Ny121:=am hy121
        clear hy121
        have H':=am H
        clear H
        have hcz25_0:wr.cell? ⟨gb115,0,none⟩=some (.int .i64 a0_0):=(blk_cell BK115.out 0).trans rfl
        have hcz25_1:wr.cell? ⟨gb115,1,none⟩=some (.int .i64 a0_1):=(blk_cell BK115.out 1).trans rfl
        have hcz25_2:wr.cell? ⟨gb115,2,none⟩=some (.int .i64 a0_2):=(blk_cell BK115.out 2).trans rfl
        have hfz25_0:=blk_frozen BK115.out 0
        have hfz25_1:=blk_frozen BK115.out 1
        have hfz25_2:=blk_frozen BK115.out 2
        try go_wp2_with (first|((with_reducible refine gate_callee (f:=72) rfl ?_);refine goesL_ (some 19) rfl rfl Try.func72 d5 rfl #[.agg #[.int .i64 a0_0, .int .i64 a0_1, .int .i64 a0_2]] rfl d1 ?_;(with_reducible refine (spec_l4Many.calls a0_0 a0_1 a0_2 t118 _ A15.out).mono ?_);rintro e w26 ⟨rfl,hb⟩;refine ⟨_,rfl,?_⟩;have n0_:=am (Kd.R_below d6 hb);have n1_:=am (qb (g:=gb115) (o:=.cells #[.int .i64 a0_0, .int .i64 a0_1, .int .i64 a0_2] 51 (0,0)) (by (with_reducible repeat (first|refine qn ?_ _|refine qd ?_|refine qa ?_ _));exact BK115.out) hb);have n2_:=am (pu (by repeat (first|(with_reducible first|exact HB.out|apply pa|apply pb|apply pd|refine pt ?_ GE115.out)|exact HB.out)) hb);clear HO_6;clear BK115;clear HB;have HO_6:=n0_;have BK115:=n1_;have HB:=n2_;clear n0_ n1_ n2_;(try clear hb);(try clear hb2);(try clear hk);(try clear hi)))
        have n0_:=am (Kd.R_drew HO_6.out)
        have n1_:=am (qd BK115.out)
        have n2_:=am (pd HB.out)
        clear HO_6
        clear BK115
        clear HB
        have HO_6:=n0_
        have BK115:=n1_
        have HB:=n2_
        clear n0_ n1_ n2_
        refine rS (n:=12) (S:=fun w'=>w'.cell? ⟨gb115,0,none⟩=some (.int .i64 a0_0)∧w'.cell? ⟨gb115,1,none⟩=some (.int .i64 a0_1)∧w'.cell? ⟨gb115,2,none⟩=some (.int .i64 a0_2)) (ds:=[]) [(0,23),(1,24),(2,25),(3,26),(5,28),(8,31),(4,27),(7,30),(6,0),(9,0),(10,33),(11,34)] d5 rfl spec_HelpersOf.tab7 spec_HelpersOf.bits7 ⟨(blk_cell BK115.out 0).trans rfl,(blk_cell BK115.out 1).trans rfl,(blk_cell BK115.out 2).trans rfl⟩ (fun hHeld HT_ HW_=>?_)
        generalize w26.drew=w27 at HO_6 BK115 HB hHeld ⊢
        refine rR ?_
        refine rO (N:=some 29) HT_ rfl rfl d5 d12 (fun K hK=>?_)
        refine goes_ Try.func129 d5 rfl #[.agg #[.int .i64 a0_0, .int .i64 a0_1, .int .i64 a0_2], .int .i64 x7_2] d28 rfl rfl d1 ?_
        with_reducible refine (spec_l4Group.calls a0_0 a0_1 a0_2 x7_2 t119 _ A21.out).mono ?_
        rintro e w28 ⟨rfl,hb⟩
        refine ⟨_,rfl,?_⟩
        have n0_:=am (Kd.R_below d6 hb)
        have n1_:=am (qb (g:=gb115) (o:=.cells #[.int .i64 a0_0, .int .i64 a0_1, .int .i64 a0_2] 51 (0,0)) (by (with_reducible repeat (first|refine qn ?_ _|refine qd ?_|refine qa ?_ _));exact BK115.out) hb)
        have n2_:=am (pu (by repeat (first|(with_reducible first|exact HB.out|apply pa|apply pb|apply pd|refine pt ?_ GE115.out)|exact HB.out)) hb)
        clear HO_6
        clear BK115
        clear HB
        have HO_6:=n0_
        have BK115:=n1_
        have HB:=n2_
        clear n0_ n1_ n2_
        (try clear hb)
        (try clear hb2)
        (try clear hk)
        (try clear hi)
        refine hK.out _ _ ⟨(blk_cell BK115.out 0).trans rfl,(blk_cell BK115.out 1).trans rfl,(blk_cell BK115.out 2).trans rfl⟩ (fun hHeld=>?_)
        clear hK K
        refine rN (a':=?_) ?_ ?_
        rotate_left
        ·show Act.put _ (some 29) _=_
         simp only [Act.put,q1,q2,q3,i64_w,i32_w]
         rfl
        refine rO (N:=some 32) HT_ rfl rfl d5 d12 (fun K hK=>?_)
        refine goes_ Try.func129 d5 rfl #[.agg #[.int .i64 a0_0, .int .i64 a0_1, .int .i64 a0_2], .int .i64 a1] d28 rfl rfl d1 ?_
        with_reducible refine (spec_l4Group.calls a0_0 a0_1 a0_2 a1 t120 _ A22.out).mono ?_
        rintro e w29 ⟨rfl,hb⟩
        refine ⟨_,rfl,?_⟩
        have n0_:=am (Kd.R_below d6 hb)
        have n1_:=am (qb (g:=gb115) (o:=.cells #[.int .i64 a0_0, .int .i64 a0_1, .int .i64 a0_2] 51 (0,0)) (by (with_reducible repeat (first|refine qn ?_ _|refine qd ?_|refine qa ?_ _));exact BK115.out) hb)
        have n2_:=am (pu (by repeat (first|(with_reducible first|exact HB.out|apply pa|apply pb|apply pd|refine pt ?_ GE115.out)|exact HB.out)) hb)
        clear HO_6
        clear BK115
        clear HB
        have HO_6:=n0_
        have BK115:=n1_
        have HB:=n2_
        clear n0_ n1_ n2_
        (try clear hb)
        (try clear hb2)
        (try clear hk)
        (try clear hi)
        refine hK.out _ _ ⟨(blk_cell BK115.out 0).trans rfl,(blk_cell BK115.out 1).trans rfl,(blk_cell BK115.out 2).trans rfl⟩ (fun hHeld=>?_)
        clear hK K
        refine rN (a':=?_) ?_ ?_
        rotate_left
        ·show Act.put _ (some 32) _=_
         simp only [Act.put,q1,q2,q3,i64_w,i32_w]
         rfl
        refine rR ?_
        refine rD HT_ d5 ?_
        try go_wp2_with (first|((with_reducible refine gate_builtin (b:=.append) (xs:=#[.tmp 35, .tmp 37]) rfl ?_);at_builtin;refine Kd.R_append (Kd.int .i64) (w0:=w) w.heap.size rfl (.tmp 35) (.tmp 37) 62 3 (.int .i64 0) 8 rfl Try.underlying62 info3 rfl d12 d16 u6 x6_2 x7_2 [.int .i64 x7_2] (fun _=>True) (fun _=>False) rfl rfl ?aP (fun _ hk=>hk.elim) ?aF ?aO ?aB ?aS ?aL ?_;(case aP=>exact rfl);(case aB=>exact (by repeat (first|(with_reducible first|exact HB.out|apply pa|apply pb|apply pd|refine pt ?_ GE115.out)|exact HB.out)));(case aF=>exact (fun _ _=>trivial));(case aO=>exact d6);(case aS=>exact (pz (by repeat (first|(with_reducible first|exact HB.out|apply pa|apply pb|apply pd|refine pt ?_ GE115.out)|exact HB.out))));(case aL=>have:=LMc24.out;omega);intro v122 w30 ho hb hg hat;rw [← Ny121.out] at ho;have n0_:=am (blk_grown (g:=gb115) (o:=.cells #[.int .i64 a0_0, .int .i64 a0_1, .int .i64 a0_2] 51 (0,0)) (by (with_reducible repeat (first|refine qn ?_ _|refine qd ?_|refine qa ?_ _));exact BK115.out) hg (Kd.R_ne HO_6.out BK115.out d12));have n1_:=am (hb);have n2_:=am (ho);clear BK115;clear HB;clear HO_6;have BK115:=n0_;have HB:=n1_;have HO123:=n2_;clear n0_ n1_ n2_;clear ho hb hg hat))
        go_roundg k2
        case measure=>have:=HJ2.out;have:=HK2.out;omega
        case rel=>exact ⟨(y121),(wrap64 (x7_2+1)),d4,H',⟨by have:=HJ2.out;have:=HK2.out;omega⟩,⟨by (with_reducible repeat (first|apply Kd.R_alloc|apply Kd.R_drewN|apply Kd.R_drew));exact HO123.out⟩,⟨by (with_reducible repeat (first|refine qn ?_ _|refine qd ?_|refine qa ?_ _));exact BK115.out⟩,⟨by repeat (first|(with_reducible first|exact HB.out|apply pa|apply pb|apply pd|refine pt ?_ GE115.out)|exact HB.out)⟩⟩
       rw [if_neg c24] at H
       exact absurd H d24
      rw [if_neg c23] at H
      have c23b0:(t119 == t120)=false:=beq_eq_false_iff_ne.mpr c23
      have c23b1:(t119 != t120)=true:=bne_iff_ne.mpr c23
      have H':=am H
      clear H
      have hcz31_0:wr.cell? ⟨gb115,0,none⟩=some (.int .i64 a0_0):=(blk_cell BK115.out 0).trans rfl
      have hcz31_1:wr.cell? ⟨gb115,1,none⟩=some (.int .i64 a0_1):=(blk_cell BK115.out 1).trans rfl
      have hcz31_2:wr.cell? ⟨gb115,2,none⟩=some (.int .i64 a0_2):=(blk_cell BK115.out 2).trans rfl
      have hfz31_0:=blk_frozen BK115.out 0
      have hfz31_1:=blk_frozen BK115.out 1
      have hfz31_2:=blk_frozen BK115.out 2
      try go_wp2_with (first|((with_reducible refine gate_callee (f:=72) rfl ?_);refine goesL_ (some 19) rfl rfl Try.func72 d5 rfl #[.agg #[.int .i64 a0_0, .int .i64 a0_1, .int .i64 a0_2]] rfl d1 ?_;(with_reducible refine (spec_l4Many.calls a0_0 a0_1 a0_2 t118 _ A15.out).mono ?_);rintro e w32 ⟨rfl,hb⟩;refine ⟨_,rfl,?_⟩;have n0_:=am (Kd.R_below d6 hb);have n1_:=am (qb (g:=gb115) (o:=.cells #[.int .i64 a0_0, .int .i64 a0_1, .int .i64 a0_2] 51 (0,0)) (by (with_reducible repeat (first|refine qn ?_ _|refine qd ?_|refine qa ?_ _));exact BK115.out) hb);have n2_:=am (pu (by repeat (first|(with_reducible first|exact HB.out|apply pa|apply pb|apply pd|refine pt ?_ GE115.out)|exact HB.out)) hb);clear HO_6;clear BK115;clear HB;have HO_6:=n0_;have BK115:=n1_;have HB:=n2_;clear n0_ n1_ n2_;(try clear hb);(try clear hb2);(try clear hk);(try clear hi)))
      have n0_:=am (Kd.R_drew HO_6.out)
      have n1_:=am (qd BK115.out)
      have n2_:=am (pd HB.out)
      clear HO_6
      clear BK115
      clear HB
      have HO_6:=n0_
      have BK115:=n1_
      have HB:=n2_
      clear n0_ n1_ n2_
      refine rS (n:=12) (S:=fun w'=>w'.cell? ⟨gb115,0,none⟩=some (.int .i64 a0_0)∧w'.cell? ⟨gb115,1,none⟩=some (.int .i64 a0_1)∧w'.cell? ⟨gb115,2,none⟩=some (.int .i64 a0_2)) (ds:=[]) [(0,23),(1,24),(2,25),(3,26),(5,28),(8,31),(4,27),(7,30),(6,0),(9,0),(10,33),(11,34)] d5 rfl spec_HelpersOf.tab7 spec_HelpersOf.bits7 ⟨(blk_cell BK115.out 0).trans rfl,(blk_cell BK115.out 1).trans rfl,(blk_cell BK115.out 2).trans rfl⟩ (fun hHeld HT_ HW_=>?_)
      generalize w32.drew=w33 at HO_6 BK115 HB hHeld ⊢
      refine rR ?_
      refine rO (N:=some 29) HT_ rfl rfl d5 d12 (fun K hK=>?_)
      refine goes_ Try.func129 d5 rfl #[.agg #[.int .i64 a0_0, .int .i64 a0_1, .int .i64 a0_2], .int .i64 x7_2] d28 rfl rfl d1 ?_
      with_reducible refine (spec_l4Group.calls a0_0 a0_1 a0_2 x7_2 t119 _ A21.out).mono ?_
      rintro e w34 ⟨rfl,hb⟩
      refine ⟨_,rfl,?_⟩
      have n0_:=am (Kd.R_below d6 hb)
      have n1_:=am (qb (g:=gb115) (o:=.cells #[.int .i64 a0_0, .int .i64 a0_1, .int .i64 a0_2] 51 (0,0)) (by (with_reducible repeat (first|refine qn ?_ _|refine qd ?_|refine qa ?_ _));exact BK115.out) hb)
      have n2_:=am (pu (by repeat (first|(with_reducible first|exact HB.out|apply pa|apply pb|apply pd|refine pt ?_ GE115.out)|exact HB.out)) hb)
      clear HO_6
      clear BK115
      clear HB
      have HO_6:=n0_
      have BK115:=n1_
      have HB:=n2_
      clear n0_ n1_ n2_
      (try clear hb)
      (try clear hb2)
      (try clear hk)
      (try clear hi)
      refine hK.out _ _ ⟨(blk_cell BK115.out 0).trans rfl,(blk_cell BK115.out 1).trans rfl,(blk_cell BK115.out 2).trans rfl⟩ (fun hHeld=>?_)
      clear hK K
      refine rN (a':=?_) ?_ ?_
      rotate_left
      ·show Act.put _ (some 29) _=_
       simp only [Act.put,q1,q2,q3,i64_w,i32_w]
       rfl
      refine rO (N:=some 32) HT_ rfl rfl d5 d12 (fun K hK=>?_)
      refine goes_ Try.func129 d5 rfl #[.agg #[.int .i64 a0_0, .int .i64 a0_1, .int .i64 a0_2], .int .i64 a1] d28 rfl rfl d1 ?_
      with_reducible refine (spec_l4Group.calls a0_0 a0_1 a0_2 a1 t120 _ A22.out).mono ?_
      rintro e w35 ⟨rfl,hb⟩
      refine ⟨_,rfl,?_⟩
      have n0_:=am (Kd.R_below d6 hb)
      have n1_:=am (qb (g:=gb115) (o:=.cells #[.int .i64 a0_0, .int .i64 a0_1, .int .i64 a0_2] 51 (0,0)) (by (with_reducible repeat (first|refine qn ?_ _|refine qd ?_|refine qa ?_ _));exact BK115.out) hb)
      have n2_:=am (pu (by repeat (first|(with_reducible first|exact HB.out|apply pa|apply pb|apply pd|refine pt ?_ GE115.out)|exact HB.out)) hb)
      clear HO_6
      clear BK115
      clear HB
      have HO_6:=n0_
      have BK115:=n1_
      have HB:=n2_
      clear n0_ n1_ n2_
      (try clear hb)
      (try clear hb2)
      (try clear hk)
      (try clear hi)
      refine hK.out _ _ ⟨(blk_cell BK115.out 0).trans rfl,(blk_cell BK115.out 1).trans rfl,(blk_cell BK115.out 2).trans rfl⟩ (fun hHeld=>?_)
      clear hK K
      refine rN (a':=?_) ?_ ?_
      rotate_left
      ·show Act.put _ (some 32) _=_
       simp only [Act.put,q1,q2,q3,i64_w,i32_w]
       rfl
      refine rR ?_
      refine rD HT_ d5 ?_
      try go_wp2
      go_roundg k2
      case measure=>have:=HJ2.out;have:=HK2.out;omega
      case rel=>exact ⟨(x6_2),(wrap64 (x7_2+1)),d4,H',⟨by have:=HJ2.out;have:=HK2.out;omega⟩,⟨d6⟩,⟨by (with_reducible repeat (first|refine qn ?_ _|refine qd ?_|refine qa ?_ _));exact BK115.out⟩,⟨by repeat (first|(with_reducible first|exact HB.out|apply pa|apply pb|apply pd|refine pt ?_ GE115.out)|exact HB.out)⟩⟩
     rw [if_neg c16] at H
     have c16b0:decide (x7_2 < t118)=false:=decide_eq_false c16
     clear c16
     simp only [Option.some.injEq,Prod.mk.injEq] at H
     obtain ⟨rfl,rfl⟩:=H
     have hcz36_0:wr.cell? ⟨gb115,0,none⟩=some (.int .i64 a0_0):=(blk_cell BK115.out 0).trans rfl
     have hcz36_1:wr.cell? ⟨gb115,1,none⟩=some (.int .i64 a0_1):=(blk_cell BK115.out 1).trans rfl
     have hcz36_2:wr.cell? ⟨gb115,2,none⟩=some (.int .i64 a0_2):=(blk_cell BK115.out 2).trans rfl
     have hfz36_0:=blk_frozen BK115.out 0
     have hfz36_1:=blk_frozen BK115.out 1
     have hfz36_2:=blk_frozen BK115.out 2
     go_wp2_with (first|((with_reducible refine gate_callee (f:=72) rfl ?_);refine goesL_ (some 19) rfl rfl Try.func72 d5 rfl #[.agg #[.int .i64 a0_0, .int .i64 a0_1, .int .i64 a0_2]] rfl d1 ?_;(with_reducible refine (spec_l4Many.calls a0_0 a0_1 a0_2 t118 _ A15.out).mono ?_);rintro e w37 ⟨rfl,hb⟩;refine ⟨_,rfl,?_⟩;have n0_:=am (Kd.R_below d6 hb);have n1_:=am (qb (g:=gb115) (o:=.cells #[.int .i64 a0_0, .int .i64 a0_1, .int .i64 a0_2] 51 (0,0)) (by (with_reducible repeat (first|refine qn ?_ _|refine qd ?_|refine qa ?_ _));exact BK115.out) hb);have n2_:=am (pu (by repeat (first|(with_reducible first|exact HB.out|apply pa|apply pb|apply pd|refine pt ?_ GE115.out)|exact HB.out)) hb);clear HO_6;clear BK115;clear HB;have HO_6:=n0_;have BK115:=n1_;have HB:=n2_;clear n0_ n1_ n2_;(try clear hb);(try clear hb2);(try clear hk);(try clear hi)))
     go_ret2
     exact ⟨_,d2,d6,by repeat (first|(with_reducible first|exact HB.out|apply pa|apply pb|apply pd|refine pt ?_ GE115.out)|exact HB.out)⟩

end Go.Proofs.Yteflgifmdojahaa.PFnExactMendLocal
-- HALVED
-- SQUEEZED
-- SQUEEZED2
-- SQUEEZED3
-- SQUEEZED4
-- SQUEEZED5
-- SQUEEZED6
