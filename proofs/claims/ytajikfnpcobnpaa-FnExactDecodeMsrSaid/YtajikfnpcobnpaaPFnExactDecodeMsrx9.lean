-- Laid by a program of this session.
import Derived.Test.YtajikfnpcobnpaaPFnExactDecodeMsrx0
import Derived.Test.YtajikfnpcobnpaaPFnExactDecodeMsrx5
namespace Go.Proofs.Ytajikfnpcobnpaa.PFnExactDecodeMsr
open Go.RowKit Go.Proofs.YtajikfnpcobnpaaW.PrintWords Go.Proofs.YtajikfnpcobnpaaW.PrintLast Go.Proofs.YtajikfnpcobnpaaW.PrintMore
attribute [local go_sem] max2_int min2_int max_two min_two max_three min_three max_four min_four   -- for this text's walks alone
set_option linter.unusedVariables false
set_option maxHeartbeats 8000000
set_option maxRecDepth 100000
set_option linter.unusedSimpArgs false

mutual
def spec_l5Message.l0:Nat→List Int→Int→Int→Int→List (List Int)→Option ((List (List Int)))
 | 0,_,_,_,_,_=>none
 | k+1,x1,x5,x7,x8,x217000=>if x8 < 2 then (spec_l5Message.l1 k x1 x5 x7 x8 0 x217000) else (some x217000)
def spec_l5Message.l1:Nat→List Int→Int→Int→Int→Int→List (List Int)→Option ((List (List Int)))
 | 0,_,_,_,_,_,_=>none
 | k+1,x1,x5,x7,x8,x9,x217000=>if x9 < x5 then (spec_l5Message.l2 k x1 x5 x7 x8 x9 x9 x217000) else (spec_l5Message.l0 k x1 x5 x7 (wrap64 (x8+1)) x217000)
def spec_l5Message.l2:Nat→List Int→Int→Int→Int→Int→Int→List (List Int)→Option ((List (List Int)))
 | 0,_,_,_,_,_,_,_=>none
 | k+1,x1,x5,x7,x8,x9,x10,x217000=>if x10 < x5 then (if 0≤(wrap64 ((wrap64 (x8*x5))+x9)) then (if (wrap64 ((wrap64 (x8*x5))+x9)) < (x217000.length:Int) then (if 0≤x7 then (if x7 < (x1.length:Int) then (if 0≤x10 then (if x10 < ((rd_L2 x217000 (wrap64 ((wrap64 (x8*x5))+x9))).length:Int) then ((some (x217000.set ((wrap64 ((wrap64 (x8*x5))+x9)):Int).toNat ((rd_L2 x217000 (wrap64 ((wrap64 (x8*x5))+x9))).set (x10:Int).toNat (rd x1 x7)):List (List Int))).bind fun y221=>(if 0≤(wrap64 ((wrap64 (x8*x5))+x10)) then (if (wrap64 ((wrap64 (x8*x5))+x10)) < (x217000.length:Int) then (if 0≤x9 then (if x9 < ((rd_L2 y221 (wrap64 ((wrap64 (x8*x5))+x10))).length:Int) then (spec_l5Message.l2 k x1 x5 (wrap64 (x7+1)) x8 x9 (wrap64 (x10+1)) (y221.set ((wrap64 ((wrap64 (x8*x5))+x10)):Int).toNat ((rd_L2 y221 (wrap64 ((wrap64 (x8*x5))+x10))).set (x9:Int).toNat (rd x1 x7)))) else (none)) else (none)) else (none)) else (none))) else (none)) else (none)) else (none)) else (none)) else (none)) else (none)) else (spec_l5Message.l1 k x1 x5 x7 x8 (wrap64 (x9+1)) x217000)
end
def spec_l5Message.f (k:Nat) (a0_0:Int) (a0_1:Int) (l1:List Int):Option ((List (List Int))):=(spec_l2Blank.f k (wrap64 (2*(wrap64 (a0_1 - 1)))) (wrap64 (a0_1 - 1))).bind fun t213=>(spec_l5Message.l0 k l1 (wrap64 (a0_1 - 1)) 0 0 t213)
theorem spec_l5Message.mono_l:∀ k,(∀ y0 y1 y2 y3 y4,LeO (spec_l5Message.l0 k y0 y1 y2 y3 y4) (spec_l5Message.l0 (k+1) y0 y1 y2 y3 y4))∧(∀ y0 y1 y2 y3 y4 y5,LeO (spec_l5Message.l1 k y0 y1 y2 y3 y4 y5) (spec_l5Message.l1 (k+1) y0 y1 y2 y3 y4 y5))∧(∀ y0 y1 y2 y3 y4 y5 y6,LeO (spec_l5Message.l2 k y0 y1 y2 y3 y4 y5 y6) (spec_l5Message.l2 (k+1) y0 y1 y2 y3 y4 y5 y6))
 | 0=>⟨fun _ _ _ _ _ r h=>by simp [spec_l5Message.l0] at h,fun _ _ _ _ _ _ r h=>by simp [spec_l5Message.l1] at h,fun _ _ _ _ _ _ _ r h=>by simp [spec_l5Message.l2] at h⟩
 | k+1=>by
  obtain ⟨ih0,ih1,ih2⟩:=spec_l5Message.mono_l k
  refine ⟨?_,?_,?_⟩
  ·intro y0 y1 y2 y3 y4
   unfold spec_l5Message.l0
   repeat' first
   | (with_reducible exact ih0 _ _ _ _ _)
   | (with_reducible exact ih1 _ _ _ _ _ _)
   | (with_reducible exact ih2 _ _ _ _ _ _ _)
   | (with_reducible exact spec_l2Blank.mono _ _ _)
   |(with_reducible exact LeO.refl _)|(with_reducible exact LeO.none _)|(with_reducible refine LeO.ite ?_ ?_)|(with_reducible refine LeO.bind ?_ (fun _=>?_))|exact ih0 _ _ _ _ _|exact ih1 _ _ _ _ _ _|exact ih2 _ _ _ _ _ _ _|exact spec_l2Blank.mono _ _ _|exact LeO.none _|refine LeO.ite ?_ ?_|refine LeO.bind ?_ (fun _=>?_)
  ·intro y0 y1 y2 y3 y4 y5
   unfold spec_l5Message.l1
   repeat' first
   | (with_reducible exact ih0 _ _ _ _ _)
   | (with_reducible exact ih1 _ _ _ _ _ _)
   | (with_reducible exact ih2 _ _ _ _ _ _ _)
   | (with_reducible exact spec_l2Blank.mono _ _ _)
   |(with_reducible exact LeO.refl _)|(with_reducible exact LeO.none _)|(with_reducible refine LeO.ite ?_ ?_)|(with_reducible refine LeO.bind ?_ (fun _=>?_))|exact ih0 _ _ _ _ _|exact ih1 _ _ _ _ _ _|exact ih2 _ _ _ _ _ _ _|exact spec_l2Blank.mono _ _ _|exact LeO.none _|refine LeO.ite ?_ ?_|refine LeO.bind ?_ (fun _=>?_)
  intro y0 y1 y2 y3 y4 y5 y6
  unfold spec_l5Message.l2
  repeat' first
  | (with_reducible exact ih0 _ _ _ _ _)
  | (with_reducible exact ih1 _ _ _ _ _ _)
  | (with_reducible exact ih2 _ _ _ _ _ _ _)
  | (with_reducible exact spec_l2Blank.mono _ _ _)
  |(with_reducible exact LeO.refl _)|(with_reducible exact LeO.none _)|(with_reducible refine LeO.ite ?_ ?_)|(with_reducible refine LeO.bind ?_ (fun _=>?_))|exact ih0 _ _ _ _ _|exact ih1 _ _ _ _ _ _|exact ih2 _ _ _ _ _ _ _|exact spec_l2Blank.mono _ _ _|exact LeO.none _|refine LeO.ite ?_ ?_|refine LeO.bind ?_ (fun _=>?_)
theorem spec_l5Message.mono:∀ a0 a1 a2 k,LeO (spec_l5Message.f k a0 a1 a2) (spec_l5Message.f (k+1) a0 a1 a2):=by
 intro a0 a1 a2 k
 obtain ⟨ih0,ih1,ih2⟩:=spec_l5Message.mono_l k
 unfold spec_l5Message.f
 repeat' first
   | (with_reducible exact ih0 _ _ _ _ _)
   | (with_reducible exact ih1 _ _ _ _ _ _)
   | (with_reducible exact ih2 _ _ _ _ _ _ _)
   | (with_reducible exact spec_l2Blank.mono _ _ _)
   |(with_reducible exact LeO.refl _)|(with_reducible exact LeO.none _)|(with_reducible refine LeO.ite ?_ ?_)|(with_reducible refine LeO.bind ?_ (fun _=>?_))|exact ih0 _ _ _ _ _|exact ih1 _ _ _ _ _ _|exact ih2 _ _ _ _ _ _ _|exact spec_l2Blank.mono _ _ _|exact LeO.none _|refine LeO.ite ?_ ?_|refine LeO.bind ?_ (fun _=>?_)
def spec_l5Message.T13:Bool × List (List Nat × List Nat):=(true,[([],[]),([0],[0]),([],[]),([],[]),([2,3],[2,3]),([],[]),([4,5],[4,5]),([1,6],[1,6]),([7],[7]),([],[]),([],[]),([],[]),([10,11],[10,11]),([12],[12]),([8,9,0,1,2,3,4,5,6,7,8,9,10,11,12,13],[8,9]),([14,13,0,1,2,3,4,5,6,7,8,9,10,11,12,13],[13,14])])
def spec_l5Message.B13:List Nat:=[0,1,0,0,12,0,60,127,255,0,0,0,3072,7168,16383,32767]
theorem spec_l5Message.tab13:rtab .any (opsOf Try.f195 13)=spec_l5Message.T13:=by kernel_rfl
theorem spec_l5Message.bits13:waitsOk spec_l5Message.T13.2 spec_l5Message.B13=true:=by kernel_rfl
def spec_l5Message.T14:Bool × List (List Nat × List Nat):=(true,[([],[]),([0],[0]),([],[]),([],[]),([2,3],[2,3]),([],[]),([4,5],[4,5]),([1,6],[1,6]),([7],[7]),([],[]),([],[]),([],[]),([10,11],[10,11]),([12],[12]),([8,9,0,1,2,3,4,5,6,7,8,9,10,11,12,13],[8,9]),([14,13,0,1,2,3,4,5,6,7,8,9,10,11,12,13],[13,14])])
def spec_l5Message.B14:List Nat:=[0,1,0,0,12,0,60,127,255,0,0,0,3072,7168,16383,32767]
theorem spec_l5Message.tab14:rtab .any (opsOf Try.f195 14)=spec_l5Message.T14:=by kernel_rfl
theorem spec_l5Message.bits14:waitsOk spec_l5Message.T14.2 spec_l5Message.B14=true:=by kernel_rfl
theorem spec_l5Message.calls (k:Nat) (a0_0:Int) (a0_1:Int) (A1:Option Addr) (c1:Nat) (l1:List Int) (r:List (List Int)) (w:World) (hr1:Kd.C (Kd.int .u8) w A1 l1.length l1) (hc1:l1.length≤c1) (h:spec_l5Message.f k a0_0 a0_1 l1=some r) :
  Calls Try.prog 195 #[.agg #[.int .i64 a0_0, .int .i64 a0_1], .slice A1 l1.length c1] w fun e w'=>∃ v0_:Value,e = .returned (.agg #[v0_])∧Kd.S (Kd.slice 5 (Kd.int .u8)) 57 w' w.heap.size (fun _=>True) v0_ r∧Below w.heap.size w w':=by
 have hu72:=Try.underlying72
 have hu43:=Try.underlying43
 have HR1:=am hr1
 have HC1:=am hc1
 clear hr1 hc1
 have HB:=am (Below.refl w.heap.size w)
 have H:((spec_l2Blank.f k (wrap64 (2*(wrap64 (a0_1 - 1)))) (wrap64 (a0_1 - 1))).bind fun t213=>(spec_l5Message.l0 k l1 (wrap64 (a0_1 - 1)) 0 0 t213))=some r:=h
 clear h
 replace H:=Option.bind_eq_some_iff.mp H
 obtain ⟨t213,A30,H⟩:=H
 replace H:(spec_l5Message.l0 k l1 (wrap64 (a0_1 - 1)) 0 0 t213)=some r:=H
 have A3:=am A30
 clear A30
 have H':=am H
 clear H
 go_enter Try.func195,Try.ntmps195
 go_wp2_with (first|((with_reducible refine gate_dst (N:=2) rfl ?_);refine box_event ?hg (N:=2) ?hd (cs:=#[.int .i64 a0_0, .int .i64 a0_1]) (t:=72) ?hr ?_;(case hd=>rfl);(case hg=>rfl);(case hr=>first|(go_simp;done)|(go_simp;rfl));intro gb211 hg w4 hbox hb;have n0_:=am (pu d0 hb);have n1_:=am (hbox);have n2_:=am ((by rw [hg];exact (pz d0):w.heap.size≤gb211));have n3_:=n2_;clear HB;have HB:=n0_;have BK211:=n1_;have GW211:=n2_;have GE211:=n3_;clear n0_ n1_ n2_ n3_;clear hb hbox hg)|((with_reducible refine gate_dst (N:=4) rfl ?_);refine box_event ?hg (N:=4) ?hd (cs:=#[.slice none 0 0]) (t:=43) ?hr ?_;(case hd=>rfl);(case hg=>rfl);(case hr=>first|(go_simp;done)|(go_simp;rfl));intro gb212 hg w5 hbox hb;have n0_:=am (qb (g:=gb211) (o:=.cells #[.int .i64 a0_0, .int .i64 a0_1] 72 (0,0)) (by (with_reducible repeat (first|refine qn ?_ _|refine qd ?_|refine qa ?_ _));exact BK211.out) hb);have n1_:=am (pu (by repeat (first|(with_reducible first|exact HB.out|apply pa|apply pb|apply pd|refine pt ?_ GE211.out)|exact HB.out)) hb);have n2_:=am (hbox);have n3_:=am ((by rw [hg];exact (pz (by repeat (first|(with_reducible first|exact HB.out|apply pa|apply pb|apply pd|refine pt ?_ GE211.out)|exact HB.out))):w.heap.size≤gb212));have n4_:=n3_;have n5_:=am ((by rw [hg];exact Nat.ne_of_lt (blk_lt (g:=gb211) (o:=.cells #[.int .i64 a0_0, .int .i64 a0_1] 72 (0,0)) (by (with_reducible repeat (first|refine qn ?_ _|refine qd ?_|refine qa ?_ _));exact BK211.out)):gb211 ≠ gb212));have n6_:=am ((by rw [hg];exact Nat.ne_of_gt (blk_lt (g:=gb211) (o:=.cells #[.int .i64 a0_0, .int .i64 a0_1] 72 (0,0)) (by (with_reducible repeat (first|refine qn ?_ _|refine qd ?_|refine qa ?_ _));exact BK211.out)):gb212 ≠ gb211));clear BK211;clear HB;have BK211:=n0_;have HB:=n1_;have BK212:=n2_;have GW212:=n3_;have GE212:=n4_;have NB211_212:=n5_;have NB212_211:=n6_;clear n0_ n1_ n2_ n3_ n4_ n5_ n6_;clear hb hbox hg;have hnb6:=NB211_212.out;have hnc6:=NB212_211.out;have hcz7_0:w5.cell? ⟨gb211,0,none⟩=some (.int .i64 a0_0):=(blk_cell BK211.out 0).trans rfl;have hcz7_1:w5.cell? ⟨gb211,1,none⟩=some (.int .i64 a0_1):=(blk_cell BK211.out 1).trans rfl;have hfz7_0:=blk_frozen BK211.out 0;have hfz7_1:=blk_frozen BK211.out 1)|((with_reducible refine gate_callee (f:=172) rfl ?_);refine goesL_ (some 17) rfl rfl Try.func172 d3 rfl #[.int .i64 (wrap64 (2*(wrap64 (a0_1 - 1)))), .int .i64 (wrap64 (a0_1 - 1))] rfl d5 ?_;(with_reducible refine (spec_l2Blank.calls k (wrap64 (2*(wrap64 (a0_1 - 1)))) (wrap64 (a0_1 - 1)) t213 _ A3.out).mono ?_);rintro e w8 ⟨v214,rfl,ho0,hb⟩;refine ⟨_,rfl,?_⟩;have n0_:=am (Kd.S_lower ho0 (pz (by repeat (first|(with_reducible first|exact HB.out|apply pa|apply pb|apply pd|refine pt ?_ GE211.out|refine pt ?_ GE212.out)|exact HB.out))));have n1_:=am (qb (g:=gb211) (o:=.cells #[.int .i64 a0_0, .int .i64 a0_1] 72 (0,0)) (by (with_reducible repeat (first|refine qn ?_ _|refine qd ?_|refine qa ?_ _));exact BK211.out) hb);have n2_:=am (qb (g:=gb212) (o:=.cells #[.slice none 0 0] 43 (0,0)) (by (with_reducible repeat (first|refine qn ?_ _|refine qd ?_|refine qa ?_ _));exact BK212.out) hb);have n3_:=am (pu (by repeat (first|(with_reducible first|exact HB.out|apply pa|apply pb|apply pd|refine pt ?_ GE211.out|refine pt ?_ GE212.out)|exact HB.out)) hb);clear BK211;clear BK212;clear HB;have HO215:=n0_;have BK211:=n1_;have BK212:=n2_;have HB:=n3_;clear n0_ n1_ n2_ n3_;(try clear hb);(try clear hb2);(try clear hk);(try clear hi);(try clear ho0))|((with_reducible refine gate_dst (N:=6) rfl ?_);refine box_event ?hg (N:=6) ?hd (cs:=#[.slice none 0 0]) (t:=43) ?hr ?_;(case hd=>rfl);(case hg=>rfl);(case hr=>first|(go_simp;done)|(go_simp;rfl));intro gb216 hg w9 hbox hb;have n0_:=am (Kd.S_below (by (with_reducible repeat (first|apply Kd.S_alloc|apply Kd.S_drewN|apply Kd.S_drew));exact HO215.out) hb);have n1_:=am (qb (g:=gb211) (o:=.cells #[.int .i64 a0_0, .int .i64 a0_1] 72 (0,0)) (by (with_reducible repeat (first|refine qn ?_ _|refine qd ?_|refine qa ?_ _));exact BK211.out) hb);have n2_:=am (qb (g:=gb212) (o:=.cells #[.slice none 0 0] 43 (0,0)) (by (with_reducible repeat (first|refine qn ?_ _|refine qd ?_|refine qa ?_ _));exact BK212.out) hb);have n3_:=am (pu (by repeat (first|(with_reducible first|exact HB.out|apply pa|apply pb|apply pd|refine pt ?_ GE211.out|refine pt ?_ GE212.out)|exact HB.out)) hb);have n4_:=am (hbox);have n5_:=am ((by rw [hg];exact (pz (by repeat (first|(with_reducible first|exact HB.out|apply pa|apply pb|apply pd|refine pt ?_ GE211.out|refine pt ?_ GE212.out)|exact HB.out))):w.heap.size≤gb216));have n6_:=n5_;have n7_:=am ((by rw [hg];exact Nat.ne_of_lt (blk_lt (g:=gb211) (o:=.cells #[.int .i64 a0_0, .int .i64 a0_1] 72 (0,0)) (by (with_reducible repeat (first|refine qn ?_ _|refine qd ?_|refine qa ?_ _));exact BK211.out)):gb211 ≠ gb216));have n8_:=am ((by rw [hg];exact Nat.ne_of_gt (blk_lt (g:=gb211) (o:=.cells #[.int .i64 a0_0, .int .i64 a0_1] 72 (0,0)) (by (with_reducible repeat (first|refine qn ?_ _|refine qd ?_|refine qa ?_ _));exact BK211.out)):gb216 ≠ gb211));have n9_:=am ((by rw [hg];exact Nat.ne_of_lt (blk_lt (g:=gb212) (o:=.cells #[.slice none 0 0] 43 (0,0)) (by (with_reducible repeat (first|refine qn ?_ _|refine qd ?_|refine qa ?_ _));exact BK212.out)):gb212 ≠ gb216));have n10_:=am ((by rw [hg];exact Nat.ne_of_gt (blk_lt (g:=gb212) (o:=.cells #[.slice none 0 0] 43 (0,0)) (by (with_reducible repeat (first|refine qn ?_ _|refine qd ?_|refine qa ?_ _));exact BK212.out)):gb216 ≠ gb212));clear HO215;clear BK211;clear BK212;clear HB;have HO215:=n0_;have BK211:=n1_;have BK212:=n2_;have HB:=n3_;have BK216:=n4_;have GW216:=n5_;have GE216:=n6_;have NB211_216:=n7_;have NB216_211:=n8_;have NB212_216:=n9_;have NB216_212:=n10_;clear n0_ n1_ n2_ n3_ n4_ n5_ n6_ n7_ n8_ n9_ n10_;clear hb hbox hg;obtain ⟨Ao10,co10,eo10⟩:=Kd.S_slice HO215.out;subst eo10;have hnb11:=NB216_211.out;have hnc11:=NB211_216.out;have hnb12:=NB216_212.out;have hnc12:=NB212_216.out;have hcz13_0:w9.cell? ⟨gb216,0,none⟩=some (.slice none 0 0):=(blk_cell BK216.out 0).trans rfl;have hfz13_0:=blk_frozen BK216.out 0))
 go_loopg [7,8] k (fun kq v7 v8 w'=>∃ (x7_1:Int) (x8_1:Int) (x217000_1:List (List Int)) (u217000:Value),v7 = .int .i64 x7_1∧v8 = .int .i64 x8_1∧Aside0 (spec_l5Message.l0 kq l1 (wrap64 (a0_1 - 1)) x7_1 x8_1 x217000_1=some r)∧Aside0 (kq≤k)∧Aside0 (Kd.S (Kd.slice 5 (Kd.int .u8)) 57 w' w.heap.size (fun _=>True) u217000 x217000_1)∧Aside0 (w'.heap[gb211]? = some (.cells #[.int .i64 a0_0, .int .i64 a0_1] 72 (0,0)))∧Aside0 (w'.heap[gb212]? = some (.cells #[(.slice none 0 0)] 43 (0,0)))∧Aside0 (w'.heap[gb216]? = some (.cells #[u217000] 43 (0,0)))∧Aside0 (Below w.heap.size w w'))
 case atStart=>exact ⟨(0),(0),(t213),(.slice Ao10 t213.length co10),d2,d2,H',⟨Nat.le_refl _⟩,⟨by (with_reducible repeat (first|apply Kd.S_alloc|apply Kd.S_drewN|apply Kd.S_drew));exact Kd.S_mono (Kd.S_far (p:=⟨gb216,0,none⟩) (Kd.S_types HO215.out BK216.out d11) (fun _ hk=>hk.2) (.slice Ao10 t213.length co10)) (fun _ hk=>trivial)⟩,⟨by (with_reducible repeat (first|refine qn ?_ _|refine qd ?_|refine qa ?_ _));refine blk_far ?_ NB211_216.out _;(with_reducible repeat (first|refine qn ?_ _|refine qd ?_|refine qa ?_ _));exact BK211.out⟩,⟨by (with_reducible repeat (first|refine qn ?_ _|refine qd ?_|refine qa ?_ _));refine blk_far ?_ NB212_216.out _;(with_reducible repeat (first|refine qn ?_ _|refine qd ?_|refine qa ?_ _));exact BK212.out⟩,⟨by (with_reducible repeat (first|refine qn ?_ _|refine qd ?_|refine qa ?_ _));refine blk_put (cs:=#[.slice none 0 0]) ?_ 0 _ rfl;(with_reducible repeat (first|refine qn ?_ _|refine qd ?_|refine qa ?_ _));exact BK216.out⟩,⟨by repeat (first|(with_reducible first|exact HB.out|apply pa|apply pb|apply pd|refine pt ?_ GE211.out|refine pt ?_ GE212.out|refine pt ?_ GE216.out)|exact HB.out)⟩⟩
 case round =>
  clear H'
  try clear c1
  try clear p2
  try clear c6
  try clear p6
  try clear c11
  try clear c12
  try clear hcz13_0
  try clear hcz7_0
  try clear hcz7_1
  try clear hfz13_0
  try clear hfz7_0
  try clear hfz7_1
  obtain ⟨x7_1,x8_1,x217000_1,u217000,rfl,rfl,HA,HK1,HO_217000,BK211,BK212,BK216,HB⟩:=hrel
  cases gk with
  | zero=>exact absurd HA.out (by simp [spec_l5Message.l0])
  | succ k1 =>
   have H:=HA.out
   clear HA
   simp only [spec_l5Message.l0] at H
   by_cases c14:x8_1 < 2
   ·rw [if_pos c14] at H
    have c14b0:decide (x8_1 < 2)=true:=decide_eq_true c14
    clear c14
    have H':=am H
    clear H
    go_wp2
    go_loopg [7,9] k1 (fun kq v7 v9 w'=>∃ (x7_2:Int) (x9_2:Int) (x217000_2:List (List Int)) (u217000:Value),v7 = .int .i64 x7_2∧v9 = .int .i64 x9_2∧Aside0 (spec_l5Message.l1 kq l1 (wrap64 (a0_1 - 1)) x7_2 x8_1 x9_2 x217000_2=some r)∧Aside0 (kq≤k1)∧Aside0 (Kd.S (Kd.slice 5 (Kd.int .u8)) 57 w' w.heap.size (fun _=>True) u217000 x217000_2)∧Aside0 (w'.heap[gb211]? = some (.cells #[.int .i64 a0_0, .int .i64 a0_1] 72 (0,0)))∧Aside0 (w'.heap[gb212]? = some (.cells #[(.slice none 0 0)] 43 (0,0)))∧Aside0 (w'.heap[gb216]? = some (.cells #[u217000] 43 (0,0)))∧Aside0 (Below w.heap.size w w'))
    case atStart=>exact ⟨(x7_1),(0),(x217000_1),(u217000),d2,d2,H',⟨Nat.le_refl _⟩,⟨d40⟩,⟨by (with_reducible repeat (first|refine qn ?_ _|refine qd ?_|refine qa ?_ _));exact BK211.out⟩,⟨by (with_reducible repeat (first|refine qn ?_ _|refine qd ?_|refine qa ?_ _));exact BK212.out⟩,⟨by (with_reducible repeat (first|refine qn ?_ _|refine qd ?_|refine qa ?_ _));exact BK216.out⟩,⟨by repeat (first|(with_reducible first|exact HB.out|apply pa|apply pb|apply pd|refine pt ?_ GE211.out|refine pt ?_ GE212.out|refine pt ?_ GE216.out)|exact HB.out)⟩⟩
    case round =>
     clear H'
     try clear c1
     try clear p2
     try clear c6
     try clear p6
     try clear c11
     try clear c12
     try clear c14
     try clear c14b0
     try clear hcz13_0
     try clear hcz7_0
     try clear hcz7_1
     try clear hfz13_0
     try clear hfz7_0
     try clear hfz7_1
     try clear p2
     try clear p6
     obtain ⟨x7_2,x9_2,x217000_2,u217000,rfl,rfl,HA,HK2,HO_217000,BK211,BK212,BK216,HB⟩:=hrel
     cases gk with
     | zero=>exact absurd HA.out (by simp [spec_l5Message.l1])
     | succ k2 =>
      have H:=HA.out
      clear HA
      simp only [spec_l5Message.l1] at H
      by_cases c15:x9_2 < (wrap64 (a0_1 - 1))
      ·rw [if_pos c15] at H
       have c15b0:decide (x9_2 < (wrap64 (a0_1 - 1)))=true:=decide_eq_true c15
       clear c15
       have H':=am H
       clear H
       go_wp2
       go_loopg [7,10] k2 (fun kq v7 v10 w'=>∃ (x7_3:Int) (x10_3:Int) (x217000_3:List (List Int)) (u217000:Value),v7 = .int .i64 x7_3∧v10 = .int .i64 x10_3∧Aside0 (spec_l5Message.l2 kq l1 (wrap64 (a0_1 - 1)) x7_3 x8_1 x9_2 x10_3 x217000_3=some r)∧Aside0 (kq≤k2)∧Aside0 (Kd.S (Kd.slice 5 (Kd.int .u8)) 57 w' w.heap.size (fun _=>True) u217000 x217000_3)∧Aside0 (w'.heap[gb211]? = some (.cells #[.int .i64 a0_0, .int .i64 a0_1] 72 (0,0)))∧Aside0 (w'.heap[gb212]? = some (.cells #[(.slice none 0 0)] 43 (0,0)))∧Aside0 (w'.heap[gb216]? = some (.cells #[u217000] 43 (0,0)))∧Aside0 (Below w.heap.size w w'))
       case atStart=>exact ⟨(x7_2),(x9_2),(x217000_2),(u217000),d2,d2,H',⟨Nat.le_refl _⟩,⟨d40⟩,⟨by (with_reducible repeat (first|refine qn ?_ _|refine qd ?_|refine qa ?_ _));exact BK211.out⟩,⟨by (with_reducible repeat (first|refine qn ?_ _|refine qd ?_|refine qa ?_ _));exact BK212.out⟩,⟨by (with_reducible repeat (first|refine qn ?_ _|refine qd ?_|refine qa ?_ _));exact BK216.out⟩,⟨by repeat (first|(with_reducible first|exact HB.out|apply pa|apply pb|apply pd|refine pt ?_ GE211.out|refine pt ?_ GE212.out|refine pt ?_ GE216.out)|exact HB.out)⟩⟩
       case round =>
        clear H'
        try clear c1
        try clear p2
        try clear c6
        try clear p6
        try clear c11
        try clear c12
        try clear c14
        try clear c14b0
        try clear c15
        try clear c15b0
        try clear hcz13_0
        try clear hcz7_0
        try clear hcz7_1
        try clear hfz13_0
        try clear hfz7_0
        try clear hfz7_1
        try clear p2
        try clear p6
        obtain ⟨x7_3,x10_3,x217000_3,u217000,rfl,rfl,HA,HK3,HO_217000,BK211,BK212,BK216,HB⟩:=hrel
        cases gk with
        | zero=>exact absurd HA.out (by simp [spec_l5Message.l2])
        | succ k3 =>
         have H:=HA.out
         clear HA
         simp only [spec_l5Message.l2] at H
         by_cases c16:x10_3 < (wrap64 (a0_1 - 1))
         ·rw [if_pos c16] at H
          have c16b0:decide (x10_3 < (wrap64 (a0_1 - 1)))=true:=decide_eq_true c16
          clear c16
          obtain ⟨ji17,hji17⟩:∃ j_:Int,(wrap64 ((wrap64 (x8_1*(wrap64 (a0_1 - 1))))+x9_2))=j_:=⟨_,rfl⟩
          replace H:(if 0≤(ji17) then (if (ji17) < (x217000_3.length:Int) then (if 0≤x7_3 then (if x7_3 < (l1.length:Int) then (if 0≤x10_3 then (if x10_3 < ((rd_L2 x217000_3 (ji17)).length:Int) then ((some (x217000_3.set ((ji17):Int).toNat ((rd_L2 x217000_3 (ji17)).set (x10_3:Int).toNat (rd l1 x7_3)):List (List Int))).bind fun y221=>(if 0≤(wrap64 ((wrap64 (x8_1*(wrap64 (a0_1 - 1))))+x10_3)) then (if (wrap64 ((wrap64 (x8_1*(wrap64 (a0_1 - 1))))+x10_3)) < (x217000_3.length:Int) then (if 0≤x9_2 then (if x9_2 < ((rd_L2 y221 (wrap64 ((wrap64 (x8_1*(wrap64 (a0_1 - 1))))+x10_3))).length:Int) then (spec_l5Message.l2 k3 l1 (wrap64 (a0_1 - 1)) (wrap64 (x7_3+1)) x8_1 x9_2 (wrap64 (x10_3+1)) (y221.set ((wrap64 ((wrap64 (x8_1*(wrap64 (a0_1 - 1))))+x10_3)):Int).toNat ((rd_L2 y221 (wrap64 ((wrap64 (x8_1*(wrap64 (a0_1 - 1))))+x10_3))).set (x9_2:Int).toNat (rd l1 x7_3)))) else (none)) else (none)) else (none)) else (none))) else (none)) else (none)) else (none)) else (none)) else (none)) else (none))=some r:=by first|(rw [hji17] at H;exact H)|(simp only [hji17] at H ⊢;exact H)
          have hji17w:(IntKind.i64.wrap ((wrap64 (x8_1*(wrap64 (a0_1 - 1))))+x9_2))=ji17:=(i64_w _).trans hji17
          by_cases c18:0≤(ji17)
          ·rw [if_pos c18] at H
           have c18b0:decide (0≤(ji17))=true:=decide_eq_true c18
           clear c18
           by_cases c19:(ji17) < (x217000_3.length:Int)
           ·rw [if_pos c19] at H
            have c19b0:decide ((ji17) < (x217000_3.length:Int))=true:=decide_eq_true c19
            clear c19
            by_cases c20:0≤x7_3
            ·rw [if_pos c20] at H
             have c20b0:decide (0≤x7_3)=true:=decide_eq_true c20
             clear c20
             by_cases c21:x7_3 < (l1.length:Int)
             ·rw [if_pos c21] at H
              have c21b0:decide (x7_3 < (l1.length:Int))=true:=decide_eq_true c21
              clear c21
              by_cases c22:0≤x10_3
              ·rw [if_pos c22] at H
               have c22b0:decide (0≤x10_3)=true:=decide_eq_true c22
               clear c22
               by_cases c23:x10_3 < ((rd_L2 x217000_3 (ji17)).length:Int)
               ·rw [if_pos c23] at H
                have c23b0:decide (x10_3 < ((rd_L2 x217000_3 (ji17)).length:Int))=true:=decide_eq_true c23
                clear c23
                obtain ⟨y219,hy219⟩:∃ y_:List Int,y_=((rd_L2 x217000_3 (ji17)).set (x10_3:Int).toNat (rd l1 x7_3)):=⟨_,rfl⟩
                replace H:((some (x217000_3.set ((ji17):Int).toNat y219:List (List Int))).bind fun y221=>(if 0≤(wrap64 ((wrap64 (x8_1*(wrap64 (a0_1 - 1))))+x10_3)) then (if (wrap64 ((wrap64 (x8_1*(wrap64 (a0_1 - 1))))+x10_3)) < (x217000_3.length:Int) then (if 0≤x9_2 then (if x9_2 < ((rd_L2 y221 (wrap64 ((wrap64 (x8_1*(wrap64 (a0_1 - 1))))+x10_3))).length:Int) then (spec_l5Message.l2 k3 l1 (wrap64 (a0_1 - 1)) (wrap64 (x7_3+1)) x8_1 x9_2 (wrap64 (x10_3+1)) (y221.set ((wrap64 ((wrap64 (x8_1*(wrap64 (a0_1 - 1))))+x10_3)):Int).toNat ((rd_L2 y221 (wrap64 ((wrap64 (x8_1*(wrap64 (a0_1 - 1))))+x10_3))).set (x9_2:Int).toNat (rd l1 x7_3)))) else (none)) else (none)) else (none)) else (none)))=some r:=by first|(rw [hy219];with_reducible exact H)|(have H2_:=(Option.bind_some _ _).symm.trans H;rw [hy219];with_reducible exact H2_)|(have H2_:=(Option.bind_some _ _).symm.trans H;with_reducible exact H2_)|with_reducible exact H|(rw [hy219];exact H)|exact H
                have Ny219:=am hy219
                clear hy219
                obtain ⟨y221,hy221⟩:∃ y_:List (List Int),y_=(x217000_3.set ((ji17):Int).toNat y219):=⟨_,rfl⟩
                replace H:(if 0≤(wrap64 ((wrap64 (x8_1*(wrap64 (a0_1 - 1))))+x10_3)) then (if (wrap64 ((wrap64 (x8_1*(wrap64 (a0_1 - 1))))+x10_3)) < (x217000_3.length:Int) then (if 0≤x9_2 then (if x9_2 < ((rd_L2 y221 (wrap64 ((wrap64 (x8_1*(wrap64 (a0_1 - 1))))+x10_3))).length:Int) then (spec_l5Message.l2 k3 l1 (wrap64 (a0_1 - 1)) (wrap64 (x7_3+1)) x8_1 x9_2 (wrap64 (x10_3+1)) (y221.set ((wrap64 ((wrap64 (x8_1*(wrap64 (a0_1 - 1))))+x10_3)):Int).toNat ((rd_L2 y221 (wrap64 ((wrap64 (x8_1*(wrap64 (a0_1 - 1))))+x10_3))).set (x9_2:Int).toNat (rd l1 x7_3)))) else (none)) else (none)) else (none)) else (none))=some r:=by first|(rw [hy221];with_reducible exact H)|(have H2_:=(Option.bind_some _ _).symm.trans H;rw [hy221];with_reducible exact H2_)|(have H2_:=(Option.bind_some _ _).symm.trans H;with_reducible exact H2_)|with_reducible exact H|(rw [hy221];exact H)|exact H
                have Ny221:=am hy221
                clear hy221
                obtain ⟨ji25,hji25⟩:∃ j_:Int,(wrap64 ((wrap64 (x8_1*(wrap64 (a0_1 - 1))))+x10_3))=j_:=⟨_,rfl⟩
                replace H:(if 0≤(ji25) then (if (ji25) < (x217000_3.length:Int) then (if 0≤x9_2 then (if x9_2 < ((rd_L2 y221 (ji25)).length:Int) then (spec_l5Message.l2 k3 l1 (wrap64 (a0_1 - 1)) (wrap64 (x7_3+1)) x8_1 x9_2 (wrap64 (x10_3+1)) (y221.set ((ji25):Int).toNat ((rd_L2 y221 (ji25)).set (x9_2:Int).toNat (rd l1 x7_3)))) else (none)) else (none)) else (none)) else (none))=some r:=by first|(rw [hji25] at H;exact H)|(simp only [hji25] at H ⊢;exact H)
                have hji25w:(IntKind.i64.wrap ((wrap64 (x8_1*(wrap64 (a0_1 - 1))))+x10_3))=ji25:=(i64_w _).trans hji25
                by_cases c26:0≤(ji25)
                ·rw [if_pos c26] at H
                 have c26b0:decide (0≤(ji25))=true:=decide_eq_true c26
                 clear c26
                 by_cases c27:(ji25) < (x217000_3.length:Int)
                 ·rw [if_pos c27] at H
                  have c27b0:decide ((ji25) < (x217000_3.length:Int))=true:=decide_eq_true c27
                  clear c27
                  by_cases c28:0≤x9_2
                  ·rw [if_pos c28] at H
                   have c28b0:decide (0≤x9_2)=true:=decide_eq_true c28
                   clear c28
                   by_cases c29:x9_2 < ((rd_L2 y221 (ji25)).length:Int)
                   ·rw [if_pos c29] at H
                    have c29b0:decide (x9_2 < ((rd_L2 y221 (ji25)).length:Int))=true:=decide_eq_true c29
                    clear c29
                    obtain ⟨y224,hy224⟩:∃ y_:List Int,y_=((rd_L2 y221 (ji25)).set (x9_2:Int).toNat (rd l1 x7_3)):=⟨_,rfl⟩
                    replace H:(spec_l5Message.l2 k3 l1 (wrap64 (a0_1 - 1)) (wrap64 (x7_3+1)) x8_1 x9_2 (wrap64 (x10_3+1)) (y221.set ((ji25):Int).toNat y224))=some r:=by first|(rw [hy224];with_reducible exact H)|(have H2_:=(Option.bind_some _ _).symm.trans H;rw [hy224];with_reducible exact H2_)|(have H2_:=(Option.bind_some _ _).symm.trans H;with_reducible exact H2_)|with_reducible exact H|(rw [hy224];exact H)|exact H
                    have Ny224:=am hy224
                    clear hy224
                    obtain ⟨y226,hy226⟩:∃ y_:List (List Int),y_=(y221.set ((ji25):Int).toNat y224):=⟨_,rfl⟩
                    replace H:(spec_l5Message.l2 k3 l1 (wrap64 (a0_1 - 1)) (wrap64 (x7_3+1)) x8_1 x9_2 (wrap64 (x10_3+1)) y226)=some r:=by first|(rw [hy226];with_reducible exact H)|(have H2_:=(Option.bind_some _ _).symm.trans H;rw [hy226];with_reducible exact H2_)|(have H2_:=(Option.bind_some _ _).symm.trans H;with_reducible exact H2_)|with_reducible exact H|(rw [hy226];exact H)|exact H
                    have Ny226:=am hy226
                    clear hy226
                    have H':=am H
                    clear H
                    try go_wp2
                    have n0_:=am (Kd.S_drew HO_217000.out)
                    have n1_:=am (qd BK211.out)
                    have n2_:=am (qd BK212.out)
                    have n3_:=am (qd BK216.out)
                    have n4_:=am (pd HB.out)
                    clear HO_217000
                    clear BK211
                    clear BK212
                    clear BK216
                    clear HB
                    have HO_217000:=n0_
                    have BK211:=n1_
                    have BK212:=n2_
                    have BK216:=n3_
                    have HB:=n4_
                    clear n0_ n1_ n2_ n3_ n4_
                    obtain ⟨Ao32,co32,eo32⟩:=Kd.S_slice HO_217000.out
                    (first|subst eo32|(injection eo32 with f1_ f2_ f3_;have f4_:=f1_.symm;have f5_:=f3_.symm;clear f1_ f2_ f3_;subst f4_;subst f5_))
                    have p217:0≤((ji17):Int):=od d1
                    have q217:(ji17) < (x217000_3.length:Int):=od d1
                    obtain ⟨ad217,A217_0,c217_0,e217,hx217_0,hl217_0,hi217_0⟩:=at_L2 (Kd.S_reads' HO_217000.out).2.2 (ji17) p217 q217
                    cases e217
                    obtain ⟨ce217,hce217,hMe217,hcc217⟩:=Kd.S_get HO_217000.out [] (ji17) p217 (by first|exact q217|exact od d1|(have e_:=(Kd.S_reads' HO_217000.out).1;omega))
                    obtain ⟨ve217_0,rfl,ge217_0⟩:=hMe217
                    have hv217_0:=hcc217 0 _ rfl
                    rw [Nat.add_zero,show ((Kd.slice 5 (Kd.int .u8))).sz=1 from rfl,Nat.mul_one] at hv217_0
                    replace hv217_0:=Option.some.inj (hv217_0.symm.trans hx217_0)
                    rw [hv217_0] at ge217_0
                    have HL217_0:=am (show Kd.R (Kd.int .u8) 5 _ _ _ _ (rd_L2 x217000_3 (ji17)) from ge217_0)
                    clear hv217_0 ge217_0
                    have HX217_0:=am hx217_0
                    clear hcc217 hce217
                    have HR217_0:=am hi217_0
                    have HC217_0:=am hl217_0
                    clear hi217_0 hl217_0
                    replace p217:=eq_true p217
                    replace q217:=eq_true q217
                    have p218:0≤(x7_3:Int):=od d1
                    have q218:x7_3 < (l1.length:Int):=od d1
                    obtain ⟨ad218,e218,hx218_0⟩:=Kd.at_int HR1.out x7_3 p218 q218
                    have hw218_0:=hx218_0
                    cases e218
                    replace hx218_0:=(HB.out.cell (World.block_lt_of_cell? w _ hx218_0)).trans hx218_0
                    replace p218:=eq_true p218
                    replace q218:=eq_true q218
                    have p24:0≤(x10_3:Int):=od d1
                    have q24:(x10_3:Int) < (((rd_L2 x217000_3 (ji17)).length:Int):Int):=od d1
                    obtain ⟨go24,co24,eo24,gb24,gl24,cl24,HG24⟩:=Kd.R_form HL217_0.out d10
                    (first|cases eo24|(injection eo24 with ea_ en_ ec_;(first|subst ea_|(injection ea_ with ea_;subst ea_));subst ec_;clear en_))
                    have GB24:=am gb24
                    have GG24:=am HG24
                    clear gb24 gl24 HG24
                    obtain ⟨hx24_0,hf24_0⟩:=Kd.R_celln 0 HL217_0.out (x10_3:Int) p24 q24
                    replace p24:=eq_true p24
                    replace q24:=eq_true q24
                    have hq33:((ji17):Int) < (x217000_3.length:Int):=(by have h_:((ji17):Int) < ((x217000_3.length:Int):Int):=od d1;first|exact h_|(have e_:=(Kd.S_reads' HO_217000.out).1;omega)|simpa only [List.length_set,List.length_set] using h_)
                    obtain ⟨oki33,ce33,hcl33,hM33,hcc33,hok33,hbk33⟩:=Kd.S_borrow HO_217000.out [] ((ji17):Int) (od d1) hq33
                    obtain ⟨ve33_0,rfl,ge33_0⟩:=hM33
                    have hv33:=hcc33 0 _ rfl
                    rw [Nat.add_zero,show ((Kd.slice 5 (Kd.int .u8))).sz=1 from rfl,Nat.mul_one] at hv33
                    replace hv33:=Option.some.inj (hv33.symm.trans HX217_0.out)
                    subst hv33
                    clear hcc33 hcl33
                    replace ge33_0:=(show Kd.R (Kd.int .u8) 5 _ _ _ _ (rd_L2 x217000_3 (ji17)) from ge33_0)
                    have HP33:=Kd.R_putg ge33_0 (x10_3:Int) (rd l1 x7_3)
                    rw [← Ny219.out] at HP33
                    have HS33:=hbk33 HP33.2 (fun k_ e_=>by injection e_ with e_;subst e_;exact ge33_0.1 _ rfl) (x':=y219) (Kd.M_row HP33.1)
                    rw [← Ny221.out] at HS33
                    have HQ33:=am HS33
                    clear HP33 HS33 hbk33 hok33
                    refine rS (n:=16) (S:=fun w'=>w'.cell? ⟨gb216,0,none⟩=some (.slice (some ad217) x217000_3.length co32)∧w'.cell? (ad217.add ((ji17)).toNat)=some (.slice (some ⟨go24,0,none⟩) (rd_L2 x217000_3 (ji17)).length c217_0)∧w'.cell? (ad218.add (x7_3).toNat)=some (.int .u8 (rd l1 x7_3))) (ds:=[15]) [(0,33),(2,35),(3,36),(4,37),(5,38),(6,39),(9,42),(10,43),(11,44),(12,45),(1,34),(7,40),(8,41),(13,46),(14,47),(15,0)] d3 rfl spec_l5Message.tab13 spec_l5Message.bits13 ⟨(blk_cell BK216.out 0).trans rfl,hx217_0,((HB.out.cell (World.block_lt_of_cell? w _ hw218_0)).trans hw218_0)⟩ (fun hHeld HT_ HW_=>?_)
                    generalize wr.drew=w31 at HO_217000 BK211 BK212 BK216 HB GG24 HL217_0 HQ33 HR217_0 HX217_0 hf24_0 hx217_0 hx218_0 hx24_0 hHeld ⊢
                    refine rR ?_
                    refine rL (N:=none) HT_ rfl rfl d3 d11 (fun K hK=>?_)
                    refine skip_ (w1:=?_) d18 rfl ?_ ?_
                    rotate_left
                    ·go_simp
                     rfl
                    refine hK.out _ _ ?_
                    clear hK K
                    refine rD HT_ d3 ?_
                    try go_wp2
                    have n0_:Aside0 (Kd.S (Kd.slice 5 (Kd.int .u8)) 57 (w31.setCell ⟨go24,(x10_3:Int).toNat,none⟩ (.int .u8 (rd l1 x7_3))) w.heap.size (fun _=>True) (.slice (some ad217) x217000_3.length co32) y221):=⟨by (with_reducible repeat (first|apply Kd.S_alloc|apply Kd.S_drewN|apply Kd.S_drew));exact HQ33.out⟩
                    have n1_:Aside0 ((w31.setCell ⟨go24,(x10_3:Int).toNat,none⟩ (.int .u8 (rd l1 x7_3))).heap[gb211]? = some (.cells #[.int .i64 a0_0, .int .i64 a0_1] 72 (0,0))):=⟨by (with_reducible repeat (first|refine qn ?_ _|refine qd ?_|refine qa ?_ _));refine blk_far ?_ (by have h_:=Kd.R_ne HL217_0.out BK211.out d11;intro e_;exact h_ d59) _;(with_reducible repeat (first|refine qn ?_ _|refine qd ?_|refine qa ?_ _));exact BK211.out⟩
                    have n2_:Aside0 ((w31.setCell ⟨go24,(x10_3:Int).toNat,none⟩ (.int .u8 (rd l1 x7_3))).heap[gb212]? = some (.cells #[.slice none 0 0] 43 (0,0))):=⟨by (with_reducible repeat (first|refine qn ?_ _|refine qd ?_|refine qa ?_ _));refine blk_far ?_ (by have h_:=Kd.R_ne HL217_0.out BK212.out d11;intro e_;exact h_ d59) _;(with_reducible repeat (first|refine qn ?_ _|refine qd ?_|refine qa ?_ _));exact BK212.out⟩
                    have n3_:Aside0 ((w31.setCell ⟨go24,(x10_3:Int).toNat,none⟩ (.int .u8 (rd l1 x7_3))).heap[gb216]? = some (.cells #[.slice (some ad217) x217000_3.length co32] 43 (0,0))):=⟨by (with_reducible repeat (first|refine qn ?_ _|refine qd ?_|refine qa ?_ _));refine blk_far ?_ (by have h_:=Kd.R_ne HL217_0.out BK216.out d11;intro e_;exact h_ d59) _;(with_reducible repeat (first|refine qn ?_ _|refine qd ?_|refine qa ?_ _));exact BK216.out⟩
                    have n4_:Aside0 (Below w.heap.size w (w31.setCell ⟨go24,(x10_3:Int).toNat,none⟩ (.int .u8 (rd l1 x7_3)))):=⟨by repeat (first|(with_reducible first|exact HB.out|apply pa|apply pb|apply pd|refine pt ?_ GB24.out|refine pt ?_ GE211.out|refine pt ?_ GE212.out|refine pt ?_ GE216.out)|exact HB.out)⟩
                    (try clear HO_217000)
                    (try clear BK211)
                    (try clear BK212)
                    (try clear BK216)
                    (try clear HB)
                    generalize (w31.setCell ⟨go24,(x10_3:Int).toNat,none⟩ (.int .u8 (rd l1 x7_3)))=w35 at n0_ n1_ n2_ n3_ n4_ ⊢
                    have HO_217000:=n0_
                    have BK211:=n1_
                    have BK212:=n2_
                    have BK216:=n3_
                    have HB:=n4_
                    clear n0_ n1_ n2_ n3_ n4_
                    have n0_:=am (Kd.S_drew HO_217000.out)
                    have n1_:=am (qd BK211.out)
                    have n2_:=am (qd BK212.out)
                    have n3_:=am (qd BK216.out)
                    have n4_:=am (pd HB.out)
                    clear HO_217000
                    clear BK211
                    clear BK212
                    clear BK216
                    clear HB
                    have HO_217000:=n0_
                    have BK211:=n1_
                    have BK212:=n2_
                    have BK216:=n3_
                    have HB:=n4_
                    clear n0_ n1_ n2_ n3_ n4_
                    have p222:0≤((ji25):Int):=od d1
                    have q222:(ji25) < (y221.length:Int):=(by have h_:((ji25):Int) < ((x217000_3.length:Int):Int):=od d1;first|(have e_:=(Kd.S_reads' HO_217000.out).1;omega)|simpa only [Ny221.out,List.length_set] using h_)
                    have ql222:(((ji25):Int) < ((x217000_3.length:Int):Int))=True:=eq_true (od d1)
                    obtain ⟨ad222,A222_0,c222_0,e222,hx222_0,hl222_0,hi222_0⟩:=at_L2 (Kd.S_reads' HO_217000.out).2.2 (ji25) p222 q222
                    obtain rfl:ad217=ad222:=(by injection e222)
                    obtain ⟨ce222,hce222,hMe222,hcc222⟩:=Kd.S_get HO_217000.out [] (ji25) p222 (by first|exact q222|exact od d1|(have e_:=(Kd.S_reads' HO_217000.out).1;omega))
                    obtain ⟨ve222_0,rfl,ge222_0⟩:=hMe222
                    have hv222_0:=hcc222 0 _ rfl
                    rw [Nat.add_zero,show ((Kd.slice 5 (Kd.int .u8))).sz=1 from rfl,Nat.mul_one] at hv222_0
                    replace hv222_0:=Option.some.inj (hv222_0.symm.trans hx222_0)
                    rw [hv222_0] at ge222_0
                    have HL222_0:=am (show Kd.R (Kd.int .u8) 5 _ _ _ _ (rd_L2 y221 (ji25)) from ge222_0)
                    clear hv222_0 ge222_0
                    have HX222_0:=am hx222_0
                    clear hcc222 hce222
                    have HR222_0:=am hi222_0
                    have HC222_0:=am hl222_0
                    clear hi222_0 hl222_0
                    replace p222:=eq_true p222
                    replace q222:=eq_true q222
                    have p223:0≤(x7_3:Int):=od d1
                    have q223:x7_3 < (l1.length:Int):=od d1
                    obtain ⟨ad223,e223,hx223_0⟩:=Kd.at_int HR1.out x7_3 p223 q223
                    have hw223_0:=hx223_0
                    obtain rfl:ad218=ad223:=(by injection e223)
                    replace hx223_0:=(HB.out.cell (World.block_lt_of_cell? w _ hx223_0)).trans hx223_0
                    replace p223:=eq_true p223
                    replace q223:=eq_true q223
                    have p30:0≤(x9_2:Int):=od d1
                    have q30:(x9_2:Int) < (((rd_L2 y221 (ji25)).length:Int):Int):=od d1
                    obtain ⟨go30,co30,eo30,gb30,gl30,cl30,HG30⟩:=Kd.R_form HL222_0.out d10
                    (first|cases eo30|(injection eo30 with ea_ en_ ec_;(first|subst ea_|(injection ea_ with ea_;subst ea_));subst ec_;clear en_))
                    have GB30:=am gb30
                    have GG30:=am HG30
                    clear gb30 gl30 HG30
                    obtain ⟨hx30_0,hf30_0⟩:=Kd.R_celln 0 HL222_0.out (x9_2:Int) p30 q30
                    replace p30:=eq_true p30
                    replace q30:=eq_true q30
                    have hq37:((ji25):Int) < (x217000_3.length:Int):=od d1
                    obtain ⟨oki37,ce37,hcl37,hM37,hcc37,hok37,hbk37⟩:=Kd.S_borrow HO_217000.out [] ((ji25):Int) (od d1) hq37
                    obtain ⟨ve37_0,rfl,ge37_0⟩:=hM37
                    have hv37:=hcc37 0 _ rfl
                    rw [Nat.add_zero,show ((Kd.slice 5 (Kd.int .u8))).sz=1 from rfl,Nat.mul_one] at hv37
                    replace hv37:=Option.some.inj (hv37.symm.trans HX222_0.out)
                    subst hv37
                    clear hcc37 hcl37
                    replace ge37_0:=(show Kd.R (Kd.int .u8) 5 _ _ _ _ (rd_L2 y221 (ji25)) from ge37_0)
                    have HP37:=Kd.R_putg ge37_0 (x9_2:Int) (rd l1 x7_3)
                    rw [← Ny224.out] at HP37
                    have HS37:=hbk37 HP37.2 (fun k_ e_=>by injection e_ with e_;subst e_;exact ge37_0.1 _ rfl) (x':=y224) (Kd.M_row HP37.1)
                    rw [← Ny226.out] at HS37
                    have HQ37:=am HS37
                    clear HP37 HS37 hbk37 hok37
                    refine rS (n:=16) (S:=fun w'=>w'.cell? ⟨gb216,0,none⟩=some (.slice (some ad217) x217000_3.length co32)∧w'.cell? (ad217.add ((ji25)).toNat)=some (.slice (some ⟨go30,0,none⟩) (rd_L2 y221 (ji25)).length c222_0)∧w'.cell? (ad218.add (x7_3).toNat)=some (.int .u8 (rd l1 x7_3))) (ds:=[15]) [(0,48),(2,50),(3,51),(4,52),(5,53),(6,54),(9,57),(10,58),(11,59),(12,60),(1,49),(7,55),(8,56),(13,61),(14,62),(15,0)] d3 rfl spec_l5Message.tab14 spec_l5Message.bits14 ⟨(blk_cell BK216.out 0).trans rfl,hx222_0,((HB.out.cell (World.block_lt_of_cell? w _ hw223_0)).trans hw223_0)⟩ (fun hHeld HT_ HW_=>?_)
                    generalize w35.drew=w36 at HO_217000 BK211 BK212 BK216 HB GG30 HL222_0 HQ33 HQ37 HR222_0 HX222_0 hf30_0 hx222_0 hx223_0 hx30_0 hHeld ⊢
                    refine rR ?_
                    refine rL (N:=none) HT_ rfl rfl d3 d11 (fun K hK=>?_)
                    refine skip_ (w1:=?_) d18 rfl ?_ ?_
                    rotate_left
                    ·go_simp
                     rfl
                    refine hK.out _ _ ?_
                    clear hK K
                    refine rD HT_ d3 ?_
                    try go_wp2
                    go_roundg k3
                    case measure=>have:=HK1.out;have:=HK2.out;have:=HK3.out;omega
                    case rel=>exact ⟨(wrap64 (x7_3+1)),(wrap64 (x10_3+1)),(y226),(.slice (some ad217) x217000_3.length co32),d2,d2,H',⟨d56⟩,⟨by (with_reducible repeat (first|apply Kd.S_alloc|apply Kd.S_drewN|apply Kd.S_drew));exact HQ37.out⟩,⟨by (with_reducible repeat (first|refine qn ?_ _|refine qd ?_|refine qa ?_ _));refine blk_far ?_ (by have h_:=Kd.R_ne HL222_0.out BK211.out d11;intro e_;exact h_ d59) _;(with_reducible repeat (first|refine qn ?_ _|refine qd ?_|refine qa ?_ _));exact BK211.out⟩,⟨by (with_reducible repeat (first|refine qn ?_ _|refine qd ?_|refine qa ?_ _));refine blk_far ?_ (by have h_:=Kd.R_ne HL222_0.out BK212.out d11;intro e_;exact h_ d59) _;(with_reducible repeat (first|refine qn ?_ _|refine qd ?_|refine qa ?_ _));exact BK212.out⟩,⟨by (with_reducible repeat (first|refine qn ?_ _|refine qd ?_|refine qa ?_ _));refine blk_far ?_ (by have h_:=Kd.R_ne HL222_0.out BK216.out d11;intro e_;exact h_ d59) _;(with_reducible repeat (first|refine qn ?_ _|refine qd ?_|refine qa ?_ _));exact BK216.out⟩,⟨by repeat (first|(with_reducible first|exact HB.out|apply pa|apply pb|apply pd|refine pt ?_ GB30.out|refine pt ?_ GE211.out|refine pt ?_ GE212.out|refine pt ?_ GE216.out)|exact HB.out)⟩⟩
                   rw [if_neg c29] at H
                   exact absurd H d20
                  rw [if_neg c28] at H
                  exact absurd H d20
                 rw [if_neg c27] at H
                 exact absurd H d20
                rw [if_neg c26] at H
                exact absurd H d20
               rw [if_neg c23] at H
               exact absurd H d20
              rw [if_neg c22] at H
              exact absurd H d20
             rw [if_neg c21] at H
             exact absurd H d20
            rw [if_neg c20] at H
            exact absurd H d20
           rw [if_neg c19] at H
           exact absurd H d20
          rw [if_neg c18] at H
          exact absurd H d20
         rw [if_neg c16] at H
         have c16b0:decide (x10_3 < (wrap64 (a0_1 - 1)))=false:=decide_eq_false c16
         clear c16
         have H':=am H
         clear H
         go_wp2
         go_roundg k3
         case measure=>have:=HK1.out;have:=HK2.out;have:=HK3.out;omega
         case rel=>exact ⟨(x7_3),(wrap64 (x9_2+1)),(x217000_3),(u217000),d2,d2,H',⟨d56⟩,⟨d40⟩,⟨by (with_reducible repeat (first|refine qn ?_ _|refine qd ?_|refine qa ?_ _));exact BK211.out⟩,⟨by (with_reducible repeat (first|refine qn ?_ _|refine qd ?_|refine qa ?_ _));exact BK212.out⟩,⟨by (with_reducible repeat (first|refine qn ?_ _|refine qd ?_|refine qa ?_ _));exact BK216.out⟩,⟨by repeat (first|(with_reducible first|exact HB.out|apply pa|apply pb|apply pd|refine pt ?_ GE211.out|refine pt ?_ GE212.out|refine pt ?_ GE216.out)|exact HB.out)⟩⟩
      rw [if_neg c15] at H
      have c15b0:decide (x9_2 < (wrap64 (a0_1 - 1)))=false:=decide_eq_false c15
      clear c15
      have H':=am H
      clear H
      go_wp2
      go_roundg k2
      case measure=>have:=HK1.out;have:=HK2.out;omega
      case rel=>exact ⟨(x7_2),(wrap64 (x8_1+1)),(x217000_2),(u217000),d2,d2,H',⟨by have:=HK1.out;have:=HK2.out;omega⟩,⟨d40⟩,⟨by (with_reducible repeat (first|refine qn ?_ _|refine qd ?_|refine qa ?_ _));exact BK211.out⟩,⟨by (with_reducible repeat (first|refine qn ?_ _|refine qd ?_|refine qa ?_ _));exact BK212.out⟩,⟨by (with_reducible repeat (first|refine qn ?_ _|refine qd ?_|refine qa ?_ _));exact BK216.out⟩,⟨by repeat (first|(with_reducible first|exact HB.out|apply pa|apply pb|apply pd|refine pt ?_ GE211.out|refine pt ?_ GE212.out|refine pt ?_ GE216.out)|exact HB.out)⟩⟩
   rw [if_neg c14] at H
   have c14b0:decide (x8_1 < 2)=false:=decide_eq_false c14
   clear c14
   obtain rfl:=Option.some.inj H
   have hnb39:=NB216_211.out
   have hnc39:=NB211_216.out
   have hnb40:=NB216_212.out
   have hnc40:=NB212_216.out
   have hcz41_0:wr.cell? ⟨gb216,0,none⟩=some (u217000):=(blk_cell BK216.out 0).trans rfl
   have hfz41_0:=blk_frozen BK216.out 0
   obtain ⟨Ao42,co42,eo42⟩:=Kd.S_slice HO_217000.out
   subst eo42
   have hnb43:=NB212_211.out
   have hnc43:=NB211_212.out
   have hcz44_0:wr.cell? ⟨gb212,0,none⟩=some (.slice none 0 0):=(blk_cell BK212.out 0).trans rfl
   have hfz44_0:=blk_frozen BK212.out 0
   go_wp2
   refine bodyPost_ret (results_cell_row rfl _ _ gb212 43 #[.slice Ao42 x217000_1.length co42] (0,0) _ rfl (by (with_reducible repeat (first|refine qn ?_ _|refine qd ?_|refine qa ?_ _));refine blk_put (cs:=#[.slice none 0 0]) ?_ 0 _ rfl;(with_reducible repeat (first|refine qn ?_ _|refine qd ?_|refine qa ?_ _));exact BK212.out) Try.underlying43 rfl d3) rfl ?_
   exact ⟨_,d4,by (with_reducible repeat (first|apply Kd.S_alloc|apply Kd.S_drewN|apply Kd.S_drew));exact Kd.S_mono (Kd.S_far (p:=⟨gb212,0,none⟩) (Kd.S_types HO_217000.out BK212.out d11) (fun _ hk=>hk.2) (.slice Ao42 x217000_1.length co42)) (fun _ hk=>trivial),by repeat (first|(with_reducible first|exact HB.out|apply pa|apply pb|apply pd|refine pt ?_ GE211.out|refine pt ?_ GE212.out|refine pt ?_ GE216.out)|exact HB.out)⟩

end Go.Proofs.Ytajikfnpcobnpaa.PFnExactDecodeMsr
-- HALVED
-- SQUEEZED
-- SQUEEZED2
-- SQUEEZED3
-- SQUEEZED4
-- SQUEEZED5
-- SQUEEZED6
