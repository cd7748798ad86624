-- Laid by a program of this session.
import Derived.Test.YtajikfnpcobnpaaPFnExactDecodeMsrx0
import Derived.Test.YtajikfnpcobnpaaPFnExactDecodeMsrx5
namespace Go.Proofs.Ytajikfnpcobnpaa.PFnExactDecodeMsr
open Go.RowKit Go.Proofs.YtajikfnpcobnpaaW.PrintWords Go.Proofs.YtajikfnpcobnpaaW.PrintLast Go.Proofs.YtajikfnpcobnpaaW.PrintMore
attribute [local go_sem] max2_int min2_int max_two min_two max_three min_three max_four min_four   -- for this text's walks alone
set_option linter.unusedVariables false
set_option maxHeartbeats 8000000
set_option maxRecDepth 100000
set_option linter.unusedSimpArgs false

mutual
def spec_l2Transposed.l0:Nat→List (List Int)→Int→Int→List (List Int)→Option ((List (List Int)))
 | 0,_,_,_,_=>none
 | k+1,x18,x19,x20,x204000=>if x20 < x19 then (if 0≤x20 then (if x20 < (x18.length:Int) then (spec_l2Transposed.l1 k x20 x18 x19 x20 (rd_L2 x18 x20) ((rd_L2 x18 x20).length:Int) 0 x204000) else (none)) else (none)) else (some x204000)
def spec_l2Transposed.l1:Nat→Int→List (List Int)→Int→Int→List Int→Int→Int→List (List Int)→Option ((List (List Int)))
 | 0,_,_,_,_,_,_,_,_=>none
 | k+1,x4,x18,x19,x20,x25,x26,x27,x204000=>if x27 < x26 then (if 0≤x27 then (if x27 < (x25.length:Int) then (if x27 < (x204000.length:Int) then (if 0≤x4 then (if x4 < ((rd_L2 x204000 x27).length:Int) then (spec_l2Transposed.l1 k x4 x18 x19 x20 x25 x26 (wrap64 (x27+1)) (x204000.set (x27:Int).toNat ((rd_L2 x204000 x27).set (x4:Int).toNat (rd x25 x27)))) else (none)) else (none)) else (none)) else (none)) else (none)) else (spec_l2Transposed.l0 k x18 x19 (wrap64 (x20+1)) x204000)
end
def spec_l2Transposed.f (k:Nat) (l0_0:List (List Int)):Option ((List (List Int))):=if 0 < (l0_0.length:Int) then ((spec_l2Blank.f k ((rd_L2 l0_0 0).length:Int) (l0_0.length:Int)).bind fun t200=>(spec_l2Transposed.l0 k l0_0 (l0_0.length:Int) 0 t200)) else (none)
theorem spec_l2Transposed.mono_l:∀ k,(∀ y0 y1 y2 y3,LeO (spec_l2Transposed.l0 k y0 y1 y2 y3) (spec_l2Transposed.l0 (k+1) y0 y1 y2 y3))∧(∀ y0 y1 y2 y3 y4 y5 y6 y7,LeO (spec_l2Transposed.l1 k y0 y1 y2 y3 y4 y5 y6 y7) (spec_l2Transposed.l1 (k+1) y0 y1 y2 y3 y4 y5 y6 y7))
 | 0=>⟨fun _ _ _ _ r h=>by simp [spec_l2Transposed.l0] at h,fun _ _ _ _ _ _ _ _ r h=>by simp [spec_l2Transposed.l1] at h⟩
 | k+1=>by
  obtain ⟨ih0,ih1⟩:=spec_l2Transposed.mono_l k
  refine ⟨?_,?_⟩
  ·intro y0 y1 y2 y3
   unfold spec_l2Transposed.l0
   repeat' first
   | (with_reducible exact ih0 _ _ _ _)
   | (with_reducible exact ih1 _ _ _ _ _ _ _ _)
   | (with_reducible exact spec_l2Blank.mono _ _ _)
   |(with_reducible exact LeO.refl _)|(with_reducible exact LeO.none _)|(with_reducible refine LeO.ite ?_ ?_)|(with_reducible refine LeO.bind ?_ (fun _=>?_))|exact ih0 _ _ _ _|exact ih1 _ _ _ _ _ _ _ _|exact spec_l2Blank.mono _ _ _|exact LeO.none _|refine LeO.ite ?_ ?_|refine LeO.bind ?_ (fun _=>?_)
  intro y0 y1 y2 y3 y4 y5 y6 y7
  unfold spec_l2Transposed.l1
  repeat' first
  | (with_reducible exact ih0 _ _ _ _)
  | (with_reducible exact ih1 _ _ _ _ _ _ _ _)
  | (with_reducible exact spec_l2Blank.mono _ _ _)
  |(with_reducible exact LeO.refl _)|(with_reducible exact LeO.none _)|(with_reducible refine LeO.ite ?_ ?_)|(with_reducible refine LeO.bind ?_ (fun _=>?_))|exact ih0 _ _ _ _|exact ih1 _ _ _ _ _ _ _ _|exact spec_l2Blank.mono _ _ _|exact LeO.none _|refine LeO.ite ?_ ?_|refine LeO.bind ?_ (fun _=>?_)
theorem spec_l2Transposed.mono:∀ a0 k,LeO (spec_l2Transposed.f k a0) (spec_l2Transposed.f (k+1) a0):=by
 intro a0 k
 obtain ⟨ih0,ih1⟩:=spec_l2Transposed.mono_l k
 unfold spec_l2Transposed.f
 repeat' first
   | (with_reducible exact ih0 _ _ _ _)
   | (with_reducible exact ih1 _ _ _ _ _ _ _ _)
   | (with_reducible exact spec_l2Blank.mono _ _ _)
   |(with_reducible exact LeO.refl _)|(with_reducible exact LeO.none _)|(with_reducible refine LeO.ite ?_ ?_)|(with_reducible refine LeO.bind ?_ (fun _=>?_))|exact ih0 _ _ _ _|exact ih1 _ _ _ _ _ _ _ _|exact spec_l2Blank.mono _ _ _|exact LeO.none _|refine LeO.ite ?_ ?_|refine LeO.bind ?_ (fun _=>?_)
def spec_l2Transposed.T1:Bool × List (List Nat × List Nat):=(true,[([],[]),([0],[0]),([1],[1]),([2],[2]),([3],[3]),([],[]),([5],[5]),([6],[6]),([4,7],[4,7]),([],[]),([9,8,8,0,1,2,3,4,5,6,7,8,9],[8,9])])
def spec_l2Transposed.B1:List Nat:=[0,1,3,7,15,0,32,96,255,0,1023]
theorem spec_l2Transposed.tab1:rtab .any (opsOf Try.f194 1)=spec_l2Transposed.T1:=by kernel_rfl
theorem spec_l2Transposed.bits1:waitsOk spec_l2Transposed.T1.2 spec_l2Transposed.B1=true:=by kernel_rfl
theorem spec_l2Transposed.calls (k:Nat) (A0_0:Option Addr) (c0_0:Nat) (l0_0:List (List Int)) (r:List (List Int)) (w:World) (hr0_0:Kd.C (Kd.slice 5 (Kd.int .u8)) w A0_0 l0_0.length l0_0) (hc0_0:l0_0.length≤c0_0) (h:spec_l2Transposed.f k l0_0=some r) :
  Calls Try.prog 194 #[.agg #[.slice A0_0 l0_0.length c0_0]] w fun e w'=>∃ v0_:Value,e = .returned (.agg #[v0_])∧Kd.S (Kd.slice 5 (Kd.int .u8)) 57 w' w.heap.size (fun _=>True) v0_ r∧Below w.heap.size w w':=by
 have hu43:=Try.underlying43
 have HR0_0:=am hr0_0
 have HC0_0:=am hc0_0
 clear hr0_0 hc0_0
 have HB:=am (Below.refl w.heap.size w)
 have H:(if 0 < (l0_0.length:Int) then ((spec_l2Blank.f k ((rd_L2 l0_0 0).length:Int) (l0_0.length:Int)).bind fun t200=>(spec_l2Transposed.l0 k l0_0 (l0_0.length:Int) 0 t200)) else (none))=some r:=h
 clear h
 by_cases c2:0 < (l0_0.length:Int)
 ·rw [if_pos c2] at H
  have c2b0:decide (0 < (l0_0.length:Int))=true:=decide_eq_true c2
  have c2b1:decide (0 < l0_0.length)=true:=decide_eq_true d10
  clear c2
  replace H:=Option.bind_eq_some_iff.mp H
  obtain ⟨t200,A30,H⟩:=H
  replace H:(spec_l2Transposed.l0 k l0_0 (l0_0.length:Int) 0 t200)=some r:=H
  have A3:=am A30
  clear A30
  have H':=am H
  clear H
  go_enter Try.func194,Try.ntmps194
  try go_wp2_with (first|((with_reducible refine gate_dst (N:=1) rfl ?_);refine box_event ?hg (N:=1) ?hd (cs:=#[.slice A0_0 l0_0.length c0_0]) (t:=43) ?hr ?_;(case hd=>rfl);(case hg=>rfl);(case hr=>first|(go_simp;done)|(go_simp;rfl));intro gb197 hg w4 hbox hb;have n0_:=am (pu d0 hb);have n1_:=am (hbox);have n2_:=am ((by rw [hg];exact (pz d0):w.heap.size≤gb197));have n3_:=n2_;clear HB;have HB:=n0_;have BK197:=n1_;have GW197:=n2_;have GE197:=n3_;clear n0_ n1_ n2_ n3_;clear hb hbox hg)|((with_reducible refine gate_dst (N:=2) rfl ?_);refine box_event ?hg (N:=2) ?hd (cs:=#[.slice none 0 0]) (t:=43) ?hr ?_;(case hd=>rfl);(case hg=>rfl);(case hr=>first|(go_simp;done)|(go_simp;rfl));intro gb198 hg w5 hbox hb;have n0_:=am (qb (g:=gb197) (o:=.cells #[.slice A0_0 l0_0.length c0_0] 43 (0,0)) (by (with_reducible repeat (first|refine qn ?_ _|refine qd ?_|refine qa ?_ _));exact BK197.out) hb);have n1_:=am (pu (by repeat (first|(with_reducible first|exact HB.out|apply pa|apply pb|apply pd|refine pt ?_ GE197.out)|exact HB.out)) hb);have n2_:=am (hbox);have n3_:=am ((by rw [hg];exact (pz (by repeat (first|(with_reducible first|exact HB.out|apply pa|apply pb|apply pd|refine pt ?_ GE197.out)|exact HB.out))):w.heap.size≤gb198));have n4_:=n3_;have n5_:=am ((by rw [hg];exact Nat.ne_of_lt (blk_lt (g:=gb197) (o:=.cells #[.slice A0_0 l0_0.length c0_0] 43 (0,0)) (by (with_reducible repeat (first|refine qn ?_ _|refine qd ?_|refine qa ?_ _));exact BK197.out)):gb197 ≠ gb198));have n6_:=am ((by rw [hg];exact Nat.ne_of_gt (blk_lt (g:=gb197) (o:=.cells #[.slice A0_0 l0_0.length c0_0] 43 (0,0)) (by (with_reducible repeat (first|refine qn ?_ _|refine qd ?_|refine qa ?_ _));exact BK197.out)):gb198 ≠ gb197));clear BK197;clear HB;have BK197:=n0_;have HB:=n1_;have BK198:=n2_;have GW198:=n3_;have GE198:=n4_;have NB197_198:=n5_;have NB198_197:=n6_;clear n0_ n1_ n2_ n3_ n4_ n5_ n6_;clear hb hbox hg))
  have n0_:=am (qd BK197.out)
  have n1_:=am (qd BK198.out)
  have n2_:=am (pd HB.out)
  clear BK197
  clear BK198
  clear HB
  have BK197:=n0_
  have BK198:=n1_
  have HB:=n2_
  clear n0_ n1_ n2_
  have p199:0≤(0:Int):=d10
  have q199:0 < (l0_0.length:Int):=od d1
  obtain ⟨ad199,A199_0,c199_0,e199,hx199_0,hl199_0,hi199_0⟩:=at_L2 HR0_0.out 0 p199 q199
  have hw199_0:=hx199_0
  (try rw [show ((0:Int)).toNat=0 from rfl] at hw199_0)
  (try rw [show 0*1=0 from rfl] at hw199_0)
  (try rw [Addr.add_zero'] at hw199_0)
  cases e199
  have qi199:(0 < l0_0.length)=True:=eq_true d10
  (try rw [show ((0:Int)).toNat=0 from rfl] at hx199_0)
  (try rw [Addr.add_zero'] at hx199_0)
  replace hx199_0:=(HB.out.cell (World.block_lt_of_cell? w _ hx199_0)).trans hx199_0
  have HR199_0:=am hi199_0
  have HC199_0:=am hl199_0
  clear hi199_0 hl199_0
  replace p199:=eq_true p199
  replace q199:=eq_true q199
  refine start_ (n:=11) (S:=fun w'=>w'.cell? ⟨gb197,0,none⟩=some (.slice (some ad199) l0_0.length c0_0)∧w'.cell? ad199=some (.slice A199_0 (rd_L2 l0_0 0).length c199_0)) (ds:=[]) #[Z,Z,Z,Z,Z,Z,Z,Z,Z,Z,Z] d3 rfl rfl ⟨(blk_cell BK197.out 0).trans rfl,((HB.out.cell (World.block_lt_of_cell? w _ hw199_0)).trans hw199_0)⟩ (fun hHeld=>?_);refine with_tabW spec_l2Transposed.tab1 spec_l2Transposed.bits1 (fun HT_ HW_=>?_)
  generalize w5.drew=w6 at BK197 BK198 HB HR199_0 hx199_0 hHeld ⊢
  refine pure_ (i:=0) (N:=some 8) (v:=?_) (a':=?_) #[Y,Z,Z,Z,Z,Z,Z,Z,Z,Z,Z] rfl rfl (any_of HT_.out d3) hh (Or.inl ⟨d18,?_⟩) ?_ ?_
  rotate_left
  ·intro w'
   go_simp
   with_reducible rfl
  rotate_left
  ·simp only [Act.put,q1,q2,q3,i64_w,i32_w]
   rfl
  refine pure_ (i:=5) (N:=some 13) (v:=?_) (a':=?_) #[Y,Z,Z,Z,Z,Y,Z,Z,Z,Z,Z] rfl rfl (any_of HT_.out d3) hh (Or.inl ⟨d18,?_⟩) ?_ ?_
  rotate_left
  ·intro w'
   go_simp
   with_reducible rfl
  rotate_left
  ·simp only [Act.put,q1,q2,q3,i64_w,i32_w]
   rfl
  refine take_ (i:=1) (N:=some 9) (v:=?_) (a':=?_) #[Y,Y,Z,Z,Z,Y,Z,Z,Z,Z,Z] rfl rfl (take_ofW HT_.out HW_.out d3) hh (Or.inl ⟨d18,?_⟩) hHeld ?_ ?_
  rotate_left
  ·rintro w' ⟨s0,s1⟩
   go_simp
   with_reducible rfl
  rotate_left
  ·simp only [Act.put,q1,q2,q3,i64_w,i32_w]
   rfl
  refine pure_ (i:=2) (N:=some 10) (v:=?_) (a':=?_) #[Y,Y,Y,Z,Z,Y,Z,Z,Z,Z,Z] rfl rfl (any_of HT_.out d3) hh (Or.inl ⟨d18,?_⟩) ?_ ?_
  rotate_left
  ·intro w'
   go_simp
   with_reducible rfl
  rotate_left
  ·simp only [Act.put,q1,q2,q3,i64_w,i32_w]
   rfl
  refine take_ (i:=3) (N:=some 11) (v:=?_) (a':=?_) #[Y,Y,Y,Y,Z,Y,Z,Z,Z,Z,Z] rfl rfl (take_ofW HT_.out HW_.out d3) hh (Or.inl ⟨d18,?_⟩) hHeld ?_ ?_
  rotate_left
  ·rintro w' ⟨s0,s1⟩
   go_simp
   with_reducible rfl
  rotate_left
  ·simp only [Act.put,q1,q2,q3,i64_w,i32_w]
   rfl
  refine pure_ (i:=4) (N:=some 12) (v:=?_) (a':=?_) #[Y,Y,Y,Y,Y,Y,Z,Z,Z,Z,Z] rfl rfl (any_of HT_.out d3) hh (Or.inl ⟨d18,?_⟩) ?_ ?_
  rotate_left
  ·intro w'
   go_simp
   with_reducible rfl
  rotate_left
  ·simp only [Act.put,q1,q2,q3,i64_w,i32_w]
   rfl
  refine take_ (i:=6) (N:=some 14) (v:=?_) (a':=?_) #[Y,Y,Y,Y,Y,Y,Y,Z,Z,Z,Z] rfl rfl (take_ofW HT_.out HW_.out d3) hh (Or.inl ⟨d18,?_⟩) hHeld ?_ ?_
  rotate_left
  ·rintro w' ⟨s0,s1⟩
   go_simp
   with_reducible rfl
  rotate_left
  ·simp only [Act.put,q1,q2,q3,i64_w,i32_w]
   rfl
  refine pure_ (i:=7) (N:=some 15) (v:=?_) (a':=?_) #[Y,Y,Y,Y,Y,Y,Y,Y,Z,Z,Z] rfl rfl (any_of HT_.out d3) hh (Or.inl ⟨d18,?_⟩) ?_ ?_
  rotate_left
  ·intro w'
   go_simp
   with_reducible rfl
  rotate_left
  ·simp only [Act.put,q1,q2,q3,i64_w,i32_w]
   rfl
  refine join_ (σ:=Value × Nat) 1 #[Y,Y,Y,Y,Y,Y,Y,Y,Y,Y,Z] (fun s_=>[(16, .agg #[s_.1]),(3, .pointer (some ⟨s_.2,0,none⟩))]) (fun s_ w'=>(w'.cell? ⟨gb197,0,none⟩=some (.slice (some ad199) l0_0.length c0_0)∧w'.cell? ad199=some (.slice A199_0 (rd_L2 l0_0 0).length c199_0))∧(Kd.S (Kd.slice 5 (Kd.int .u8)) 57 w' w.heap.size (fun _=>True) s_.1 t200)∧(w'.heap[gb197]? = some (.cells #[.slice (some ad199) l0_0.length c0_0] 43 (0,0)))∧(w'.heap[gb198]? = some (.cells #[.slice none 0 0] 43 (0,0)))∧(w'.heap[s_.2]? = some (.cells #[.slice none 0 0] 43 (0,0)))∧(w.heap.size≤s_.2)∧(w.heap.size≤s_.2)∧(gb197 ≠ s_.2)∧(s_.2 ≠ gb197)∧(gb198 ≠ s_.2)∧(s_.2 ≠ gb198)∧(Below w.heap.size w w')) ?_ ?_
  rotate_left
  ·intro hCont
   refine two_ (i:=8) (j:=9) (Ni:=some 16) (Nj:=some 3) #[Y,Y,Y,Y,Y,Y,Y,Y,Y,Z,Z] #[Y,Y,Y,Y,Y,Y,Y,Y,Z,Y,Z] rfl rfl rfl rfl (two_of HT_.out d3) d11 d11 (fun K hK=>?_) (fun K hK=>?_)
   ·skip
    refine goes_ Try.func172 d3 rfl #[.int .i64 ((rd_L2 l0_0 0).length:Int), .int .i64 (l0_0.length:Int)] d18 rfl rfl d5 ?_
    with_reducible refine (spec_l2Blank.calls k ((rd_L2 l0_0 0).length:Int) (l0_0.length:Int) t200 _ A3.out).mono ?_
    rintro e w7 ⟨v201,rfl,ho0,hb⟩
    refine ⟨_,rfl,?_⟩
    have n0_:=am (Kd.S_lower ho0 (pz (by repeat (first|(with_reducible first|exact HB.out|apply pa|apply pb|apply pd|refine pt ?_ GE197.out|refine pt ?_ GE198.out)|exact HB.out))))
    have n1_:=am (qb (g:=gb197) (o:=.cells #[.slice (some ad199) l0_0.length c0_0] 43 (0,0)) (by (with_reducible repeat (first|refine qn ?_ _|refine qd ?_|refine qa ?_ _));exact BK197.out) hb)
    have n2_:=am (qb (g:=gb198) (o:=.cells #[.slice none 0 0] 43 (0,0)) (by (with_reducible repeat (first|refine qn ?_ _|refine qd ?_|refine qa ?_ _));exact BK198.out) hb)
    have n3_:=am (pu (by repeat (first|(with_reducible first|exact HB.out|apply pa|apply pb|apply pd|refine pt ?_ GE197.out|refine pt ?_ GE198.out)|exact HB.out)) hb)
    clear BK197
    clear BK198
    clear HB
    have HO202:=n0_
    have BK197:=n1_
    have BK198:=n2_
    have HB:=n3_
    clear n0_ n1_ n2_ n3_
    (try clear hb)
    (try clear hb2)
    (try clear hk)
    (try clear hi)
    (try clear ho0)
    refine hK.out _ _ ⟨(blk_cell BK197.out 0).trans rfl,((HB.out.cell (World.block_lt_of_cell? w _ hw199_0)).trans hw199_0)⟩ (fun hHeld=>?_)
    clear hK K
    refine norm_ (a':=?_) ?_ ?_
    rotate_left
    ·show Act.put _ (some 16) _=_
     simp only [Act.put,q1,q2,q3,i64_w,i32_w]
     rfl
    refine one_ (i:=9) (N:=some 3) #[Y,Y,Y,Y,Y,Y,Y,Y,Y,Y,Z] rfl rfl (one_of HT_.out d3) d11 (fun K hK=>?_)
    refine box_step ?hg (N:=3) ?hd (cs:=#[.slice none 0 0]) (t:=43) ?hr ?_;(case hd=>rfl);(case hg=>rfl);(case hr=>first|(go_simp;done)|(go_simp;rfl))
    intro gb203 hg w8 hbox hb
    have n0_:=am (Kd.S_below d55 hb)
    have n1_:=am (qb (g:=gb197) (o:=.cells #[.slice (some ad199) l0_0.length c0_0] 43 (0,0)) (by (with_reducible repeat (first|refine qn ?_ _|refine qd ?_|refine qa ?_ _));exact BK197.out) hb)
    have n2_:=am (qb (g:=gb198) (o:=.cells #[.slice none 0 0] 43 (0,0)) (by (with_reducible repeat (first|refine qn ?_ _|refine qd ?_|refine qa ?_ _));exact BK198.out) hb)
    have n3_:=am (pu (by repeat (first|(with_reducible first|exact HB.out|apply pa|apply pb|apply pd|refine pt ?_ GE197.out|refine pt ?_ GE198.out)|exact HB.out)) hb)
    have n4_:=am (hbox)
    have n5_:=am ((by rw [hg];exact (pz (by repeat (first|(with_reducible first|exact HB.out|apply pa|apply pb|apply pd|refine pt ?_ GE197.out|refine pt ?_ GE198.out)|exact HB.out))):w.heap.size≤gb203))
    have n6_:=am ((by rw [hg];exact (pz (by repeat (first|(with_reducible first|exact HB.out|apply pa|apply pb|apply pd|refine pt ?_ GE197.out|refine pt ?_ GE198.out)|exact HB.out))):w.heap.size≤gb203))
    have n7_:=am ((by rw [hg];exact Nat.ne_of_lt (blk_lt (g:=gb197) (o:=.cells #[.slice (some ad199) l0_0.length c0_0] 43 (0,0)) (by (with_reducible repeat (first|refine qn ?_ _|refine qd ?_|refine qa ?_ _));exact BK197.out)):gb197 ≠ gb203))
    have n8_:=am ((by rw [hg];exact Nat.ne_of_gt (blk_lt (g:=gb197) (o:=.cells #[.slice (some ad199) l0_0.length c0_0] 43 (0,0)) (by (with_reducible repeat (first|refine qn ?_ _|refine qd ?_|refine qa ?_ _));exact BK197.out)):gb203 ≠ gb197))
    have n9_:=am ((by rw [hg];exact Nat.ne_of_lt (blk_lt (g:=gb198) (o:=.cells #[.slice none 0 0] 43 (0,0)) (by (with_reducible repeat (first|refine qn ?_ _|refine qd ?_|refine qa ?_ _));exact BK198.out)):gb198 ≠ gb203))
    have n10_:=am ((by rw [hg];exact Nat.ne_of_gt (blk_lt (g:=gb198) (o:=.cells #[.slice none 0 0] 43 (0,0)) (by (with_reducible repeat (first|refine qn ?_ _|refine qd ?_|refine qa ?_ _));exact BK198.out)):gb203 ≠ gb198))
    clear HO202
    clear BK197
    clear BK198
    clear HB
    have HO202:=n0_
    have BK197:=n1_
    have BK198:=n2_
    have HB:=n3_
    have BK203:=n4_
    have GW203:=n5_
    have GE203:=n6_
    have NB197_203:=n7_
    have NB203_197:=n8_
    have NB198_203:=n9_
    have NB203_198:=n10_
    clear n0_ n1_ n2_ n3_ n4_ n5_ n6_ n7_ n8_ n9_ n10_
    clear hb hbox hg
    refine hK.out _ _ ⟨(blk_cell BK197.out 0).trans rfl,((HB.out.cell (World.block_lt_of_cell? w _ hw199_0)).trans hw199_0)⟩ (fun hHeld=>?_)
    clear hK K
    refine norm_ (a':=?_) ?_ ?_
    rotate_left
    ·show Act.put _ (some 3) _=_
     simp only [Act.put,q1,q2,q3,i64_w,i32_w]
     rfl
    exact norm_ (by simp only [putAll,Act.put,q1,q2,q3]) (hCont (v201,gb203) _ ⟨hHeld,d55,(by (with_reducible repeat (first|refine qn ?_ _|refine qd ?_|refine qa ?_ _));exact BK197.out),(by (with_reducible repeat (first|refine qn ?_ _|refine qd ?_|refine qa ?_ _));exact BK198.out),(by (with_reducible repeat (first|refine qn ?_ _|refine qd ?_|refine qa ?_ _));exact BK203.out),GW203.out,GE203.out,NB197_203.out,NB203_197.out,NB198_203.out,NB203_198.out,(by repeat (first|(with_reducible first|exact HB.out|apply pa|apply pb|apply pd|refine pt ?_ GE197.out|refine pt ?_ GE198.out|refine pt ?_ GE203.out)|exact HB.out))⟩)
   skip
   refine box_step ?hg (N:=3) ?hd (cs:=#[.slice none 0 0]) (t:=43) ?hr ?_;(case hd=>rfl);(case hg=>rfl);(case hr=>first|(go_simp;done)|(go_simp;rfl))
   intro gb203 hg w7 hbox hb
   have n0_:=am (qb (g:=gb197) (o:=.cells #[.slice (some ad199) l0_0.length c0_0] 43 (0,0)) (by (with_reducible repeat (first|refine qn ?_ _|refine qd ?_|refine qa ?_ _));exact BK197.out) hb)
   have n1_:=am (qb (g:=gb198) (o:=.cells #[.slice none 0 0] 43 (0,0)) (by (with_reducible repeat (first|refine qn ?_ _|refine qd ?_|refine qa ?_ _));exact BK198.out) hb)
   have n2_:=am (pu (by repeat (first|(with_reducible first|exact HB.out|apply pa|apply pb|apply pd|refine pt ?_ GE197.out|refine pt ?_ GE198.out)|exact HB.out)) hb)
   have n3_:=am (hbox)
   have n4_:=am ((by rw [hg];exact (pz (by repeat (first|(with_reducible first|exact HB.out|apply pa|apply pb|apply pd|refine pt ?_ GE197.out|refine pt ?_ GE198.out)|exact HB.out))):w.heap.size≤gb203))
   have n5_:=am ((by rw [hg];exact (pz (by repeat (first|(with_reducible first|exact HB.out|apply pa|apply pb|apply pd|refine pt ?_ GE197.out|refine pt ?_ GE198.out)|exact HB.out))):w.heap.size≤gb203))
   have n6_:=am ((by rw [hg];exact Nat.ne_of_lt (blk_lt (g:=gb197) (o:=.cells #[.slice (some ad199) l0_0.length c0_0] 43 (0,0)) (by (with_reducible repeat (first|refine qn ?_ _|refine qd ?_|refine qa ?_ _));exact BK197.out)):gb197 ≠ gb203))
   have n7_:=am ((by rw [hg];exact Nat.ne_of_gt (blk_lt (g:=gb197) (o:=.cells #[.slice (some ad199) l0_0.length c0_0] 43 (0,0)) (by (with_reducible repeat (first|refine qn ?_ _|refine qd ?_|refine qa ?_ _));exact BK197.out)):gb203 ≠ gb197))
   have n8_:=am ((by rw [hg];exact Nat.ne_of_lt (blk_lt (g:=gb198) (o:=.cells #[.slice none 0 0] 43 (0,0)) (by (with_reducible repeat (first|refine qn ?_ _|refine qd ?_|refine qa ?_ _));exact BK198.out)):gb198 ≠ gb203))
   have n9_:=am ((by rw [hg];exact Nat.ne_of_gt (blk_lt (g:=gb198) (o:=.cells #[.slice none 0 0] 43 (0,0)) (by (with_reducible repeat (first|refine qn ?_ _|refine qd ?_|refine qa ?_ _));exact BK198.out)):gb203 ≠ gb198))
   clear BK197
   clear BK198
   clear HB
   have BK197:=n0_
   have BK198:=n1_
   have HB:=n2_
   have BK203:=n3_
   have GW203:=n4_
   have GE203:=n5_
   have NB197_203:=n6_
   have NB203_197:=n7_
   have NB198_203:=n8_
   have NB203_198:=n9_
   clear n0_ n1_ n2_ n3_ n4_ n5_ n6_ n7_ n8_ n9_
   clear hb hbox hg
   refine hK.out _ _ ⟨(blk_cell BK197.out 0).trans rfl,((HB.out.cell (World.block_lt_of_cell? w _ hw199_0)).trans hw199_0)⟩ (fun hHeld=>?_)
   clear hK K
   refine norm_ (a':=?_) ?_ ?_
   rotate_left
   ·show Act.put _ (some 3) _=_
    simp only [Act.put,q1,q2,q3,i64_w,i32_w]
    rfl
   refine one_ (i:=8) (N:=some 16) #[Y,Y,Y,Y,Y,Y,Y,Y,Y,Y,Z] rfl rfl (one_of HT_.out d3) d11 (fun K hK=>?_)
   refine goes_ Try.func172 d3 rfl #[.int .i64 ((rd_L2 l0_0 0).length:Int), .int .i64 (l0_0.length:Int)] d18 rfl rfl d5 ?_
   with_reducible refine (spec_l2Blank.calls k ((rd_L2 l0_0 0).length:Int) (l0_0.length:Int) t200 _ A3.out).mono ?_
   rintro e w8 ⟨v201,rfl,ho0,hb⟩
   refine ⟨_,rfl,?_⟩
   have n0_:=am (Kd.S_lower ho0 (pz (by repeat (first|(with_reducible first|exact HB.out|apply pa|apply pb|apply pd|refine pt ?_ GE197.out|refine pt ?_ GE198.out|refine pt ?_ GE203.out)|exact HB.out))))
   have n1_:=am (qb (g:=gb197) (o:=.cells #[.slice (some ad199) l0_0.length c0_0] 43 (0,0)) (by (with_reducible repeat (first|refine qn ?_ _|refine qd ?_|refine qa ?_ _));exact BK197.out) hb)
   have n2_:=am (qb (g:=gb198) (o:=.cells #[.slice none 0 0] 43 (0,0)) (by (with_reducible repeat (first|refine qn ?_ _|refine qd ?_|refine qa ?_ _));exact BK198.out) hb)
   have n3_:=am (qb (g:=gb203) (o:=.cells #[.slice none 0 0] 43 (0,0)) (by (with_reducible repeat (first|refine qn ?_ _|refine qd ?_|refine qa ?_ _));exact BK203.out) hb)
   have n4_:=am (pu (by repeat (first|(with_reducible first|exact HB.out|apply pa|apply pb|apply pd|refine pt ?_ GE197.out|refine pt ?_ GE198.out|refine pt ?_ GE203.out)|exact HB.out)) hb)
   clear BK197
   clear BK198
   clear BK203
   clear HB
   have HO202:=n0_
   have BK197:=n1_
   have BK198:=n2_
   have BK203:=n3_
   have HB:=n4_
   clear n0_ n1_ n2_ n3_ n4_
   (try clear hb)
   (try clear hb2)
   (try clear hk)
   (try clear hi)
   (try clear ho0)
   refine hK.out _ _ ⟨(blk_cell BK197.out 0).trans rfl,((HB.out.cell (World.block_lt_of_cell? w _ hw199_0)).trans hw199_0)⟩ (fun hHeld=>?_)
   clear hK K
   refine norm_ (a':=?_) ?_ ?_
   rotate_left
   ·show Act.put _ (some 16) _=_
    simp only [Act.put,q1,q2,q3,i64_w,i32_w]
    rfl
   exact norm_ (by simp only [putAll,Act.put,q1,q2,q3]) (hCont (v201,gb203) _ ⟨hHeld,d55,(by (with_reducible repeat (first|refine qn ?_ _|refine qd ?_|refine qa ?_ _));exact BK197.out),(by (with_reducible repeat (first|refine qn ?_ _|refine qd ?_|refine qa ?_ _));exact BK198.out),(by (with_reducible repeat (first|refine qn ?_ _|refine qd ?_|refine qa ?_ _));exact BK203.out),GW203.out,GE203.out,NB197_203.out,NB203_197.out,NB198_203.out,NB203_198.out,(by repeat (first|(with_reducible first|exact HB.out|apply pa|apply pb|apply pd|refine pt ?_ GE197.out|refine pt ?_ GE198.out|refine pt ?_ GE203.out)|exact HB.out))⟩)
  rintro ⟨v201,gb203⟩ w9 ⟨hS_,h0_,h1_,h2_,h3_,h4_,h5_,h6_,h7_,h8_,h9_,h10_⟩
  have n0_:Aside0 (Kd.S (Kd.slice 5 (Kd.int .u8)) 57 w9 w.heap.size (fun _=>True) v201 t200):=⟨h0_⟩
  have n1_:Aside0 (w9.heap[gb197]? = some (.cells #[.slice (some ad199) l0_0.length c0_0] 43 (0,0))):=⟨h1_⟩
  have n2_:Aside0 (w9.heap[gb198]? = some (.cells #[.slice none 0 0] 43 (0,0))):=⟨h2_⟩
  have n3_:Aside0 (w9.heap[gb203]? = some (.cells #[.slice none 0 0] 43 (0,0))):=⟨h3_⟩
  have n4_:Aside0 (w.heap.size≤gb203):=⟨h4_⟩
  have n5_:Aside0 (w.heap.size≤gb203):=⟨h5_⟩
  have n6_:Aside0 (gb197 ≠ gb203):=⟨h6_⟩
  have n7_:Aside0 (gb203 ≠ gb197):=⟨h7_⟩
  have n8_:Aside0 (gb198 ≠ gb203):=⟨h8_⟩
  have n9_:Aside0 (gb203 ≠ gb198):=⟨h9_⟩
  have n10_:Aside0 (Below w.heap.size w w9):=⟨h10_⟩
  clear BK197
  clear BK198
  clear HB
  clear h0_ h1_ h2_ h3_ h4_ h5_ h6_ h7_ h8_ h9_ h10_
  have HO202:=n0_
  have BK197:=n1_
  have BK198:=n2_
  have BK203:=n3_
  have GW203:=n4_
  have GE203:=n5_
  have NB197_203:=n6_
  have NB203_197:=n7_
  have NB198_203:=n8_
  have NB203_198:=n9_
  have HB:=n10_
  clear n0_ n1_ n2_ n3_ n4_ n5_ n6_ n7_ n8_ n9_ n10_
  have hHeld:w9.cell? ⟨gb197,0,none⟩=some (.slice (some ad199) l0_0.length c0_0)∧w9.cell? ad199=some (.slice A199_0 (rd_L2 l0_0 0).length c199_0):=hS_
  obtain ⟨Ao10,co10,eo10⟩:=Kd.S_slice HO202.out
  (first|subst eo10|(injection eo10 with f1_ f2_ f3_;have f4_:=f1_.symm;have f5_:=f3_.symm;clear f1_ f2_ f3_;subst f4_;subst f5_))
  refine norm_ (a':=?_) ?_ ?_
  rotate_left
  ·simp only [putAll,Act.put,q1,q2,q3]
   rfl
  refine one_ (i:=10) (N:=none) #[Y,Y,Y,Y,Y,Y,Y,Y,Y,Y,Y] rfl rfl (one_of HT_.out d3) d11 (fun K hK=>?_)
  have hs11:w9.cell? ⟨gb203,0,none⟩=some (.slice none 0 0):=(blk_cell BK203.out 0).trans rfl
  have hfs11:=blk_frozen BK203.out 0
  have hns11_0:=NB197_203.out
  have hns11_1:=NB198_203.out
  have hms11_0:=NB203_197.out
  have hms11_1:=NB203_198.out
  refine skip_ (w1:=?_) d18 rfl ?_ ?_
  rotate_left
  ·go_simp
   rfl
  refine hK.out _ _ ⟨((cell_far (p:=⟨gb203,_,none⟩) NB197_203.out _).trans (hHeld.1)),((cell_far (p:=⟨gb203,_,none⟩) (by first|exact Nat.ne_of_lt (Nat.lt_of_lt_of_le (by have:=World.block_lt_of_cell? _ _ hw199_0;first|rwa [add_block] at this|exact this) GW203.out)|(rw [add_block];exact Nat.ne_of_lt (Nat.lt_of_lt_of_le (by have:=World.block_lt_of_cell? _ _ hw199_0;first|rwa [add_block] at this|exact this) GW203.out))|(show (Addr.add _ _).block ≠ _;rw [add_block];exact Nat.ne_of_lt (Nat.lt_of_lt_of_le (by have:=World.block_lt_of_cell? _ _ hw199_0;first|rwa [add_block] at this|exact this) GW203.out))|(dsimp only;exact Nat.ne_of_lt (Nat.lt_of_lt_of_le (by have:=World.block_lt_of_cell? _ _ hw199_0;first|rwa [add_block] at this|exact this) GW203.out))) _).trans (hHeld.2))⟩ (fun hHeld=>?_)
  clear hK K
  refine done_ (done_of HT_.out d3) ?_
  have hnb12:=NB197_198.out
  have hnc12:=NB198_197.out
  have hnb13:=NB197_203.out
  have hnc13:=NB203_197.out
  have hcz14_0:w9.cell? ⟨gb197,0,none⟩=some (.slice (some ad199) l0_0.length c0_0):=(blk_cell BK197.out 0).trans rfl
  have hfz14_0:=blk_frozen BK197.out 0
  try go_wp2
  go_loopg [20] k (fun kq v20 w'=>∃ (x20_1:Int) (x204000_1:List (List Int)) (u204000:Value),v20 = .int .i64 x20_1∧Aside0 (spec_l2Transposed.l0 kq l0_0 (l0_0.length:Int) x20_1 x204000_1=some r)∧Aside0 (kq≤k)∧Aside0 (Kd.S (Kd.slice 5 (Kd.int .u8)) 57 w' w.heap.size (fun _=>True) u204000 x204000_1)∧Aside0 (w'.heap[gb197]? = some (.cells #[(.slice (some ad199) l0_0.length c0_0)] 43 (0,0)))∧Aside0 (w'.heap[gb198]? = some (.cells #[(.slice none 0 0)] 43 (0,0)))∧Aside0 (w'.heap[gb203]? = some (.cells #[u204000] 43 (0,0)))∧Aside0 (Below w.heap.size w w'))
  case atStart=>exact ⟨(0),(t200),(.slice Ao10 t200.length co10),d2,H',⟨Nat.le_refl _⟩,⟨by (with_reducible repeat (first|apply Kd.S_alloc|apply Kd.S_drewN|apply Kd.S_drew));exact Kd.S_mono (Kd.S_far (p:=⟨gb203,0,none⟩) (Kd.S_types HO202.out BK203.out d11) (fun _ hk=>hk.2) (.slice Ao10 t200.length co10)) (fun _ hk=>trivial)⟩,⟨by (with_reducible repeat (first|refine qn ?_ _|refine qd ?_|refine qa ?_ _));refine blk_far ?_ NB197_203.out _;(with_reducible repeat (first|refine qn ?_ _|refine qd ?_|refine qa ?_ _));exact BK197.out⟩,⟨by (with_reducible repeat (first|refine qn ?_ _|refine qd ?_|refine qa ?_ _));refine blk_far ?_ NB198_203.out _;(with_reducible repeat (first|refine qn ?_ _|refine qd ?_|refine qa ?_ _));exact BK198.out⟩,⟨by (with_reducible repeat (first|refine qn ?_ _|refine qd ?_|refine qa ?_ _));refine blk_put (cs:=#[.slice none 0 0]) ?_ 0 _ rfl;(with_reducible repeat (first|refine qn ?_ _|refine qd ?_|refine qa ?_ _));exact BK203.out⟩,⟨by repeat (first|(with_reducible first|exact HB.out|apply pa|apply pb|apply pd|refine pt ?_ GE197.out|refine pt ?_ GE198.out|refine pt ?_ GE203.out)|exact HB.out)⟩⟩
  case round =>
   clear H'
   try clear c1
   try clear p1
   try clear q1
   try clear hx1
   try clear qi1
   try clear c2
   try clear c2b0
   try clear c2b1
   try clear p2
   try clear c12
   try clear c13
   try clear hcz14_0
   try clear hfz14_0
   try clear hx199_0
   try clear p199
   try clear q199
   obtain ⟨x20_1,x204000_1,u204000,rfl,HA,HK1,HO_204000,BK197,BK198,BK203,HB⟩:=hrel
   cases gk with
   | zero=>exact absurd HA.out (by simp [spec_l2Transposed.l0])
   | succ k1 =>
    have H:=HA.out
    clear HA
    simp only [spec_l2Transposed.l0] at H
    by_cases c15:x20_1 < (l0_0.length:Int)
    ·rw [if_pos c15] at H
     have c15b0:decide (x20_1 < (l0_0.length:Int))=true:=decide_eq_true c15
     clear c15
     by_cases c16:0≤x20_1
     ·rw [if_pos c16] at H
      have c16b0:decide (0≤x20_1)=true:=decide_eq_true c16
      clear c16
      by_cases c17:x20_1 < (l0_0.length:Int)
      ·rw [if_pos c17] at H
       have c17b0:decide (x20_1 < (l0_0.length:Int))=true:=decide_eq_true c17
       clear c17
       have H':=am H
       clear H
       have p204:0≤(x20_1:Int):=od d1
       have q204:x20_1 < (l0_0.length:Int):=od d1
       obtain ⟨ad204,A204_0,c204_0,e204,hx204_0,hl204_0,hi204_0⟩:=at_L2 HR0_0.out x20_1 p204 q204
       obtain rfl:ad199=ad204:=(by injection e204)
       replace hx204_0:=(HB.out.cell (World.block_lt_of_cell? w _ hx204_0)).trans hx204_0
       have HR204_0:=am hi204_0
       have HC204_0:=am hl204_0
       clear hi204_0 hl204_0
       replace p204:=eq_true p204
       replace q204:=eq_true q204
       go_wp2
       go_loopg [27] k1 (fun kq v27 w'=>∃ (x27_2:Int) (x204000_2:List (List Int)) (u204000:Value),v27 = .int .i64 x27_2∧Aside0 (spec_l2Transposed.l1 kq x20_1 l0_0 (l0_0.length:Int) x20_1 (rd_L2 l0_0 x20_1) ((rd_L2 l0_0 x20_1).length:Int) x27_2 x204000_2=some r)∧Aside0 (kq≤k1)∧Aside0 (Kd.S (Kd.slice 5 (Kd.int .u8)) 57 w' w.heap.size (fun _=>True) u204000 x204000_2)∧Aside0 (w'.heap[gb197]? = some (.cells #[(.slice (some ad199) l0_0.length c0_0)] 43 (0,0)))∧Aside0 (w'.heap[gb198]? = some (.cells #[(.slice none 0 0)] 43 (0,0)))∧Aside0 (w'.heap[gb203]? = some (.cells #[u204000] 43 (0,0)))∧Aside0 (Below w.heap.size w w'))
       case atStart=>exact ⟨(0),(x204000_1),(u204000),d2,H',⟨Nat.le_refl _⟩,⟨d53⟩,⟨by (with_reducible repeat (first|refine qn ?_ _|refine qd ?_|refine qa ?_ _));exact BK197.out⟩,⟨by (with_reducible repeat (first|refine qn ?_ _|refine qd ?_|refine qa ?_ _));exact BK198.out⟩,⟨by (with_reducible repeat (first|refine qn ?_ _|refine qd ?_|refine qa ?_ _));exact BK203.out⟩,⟨by repeat (first|(with_reducible first|exact HB.out|apply pa|apply pb|apply pd|refine pt ?_ GE197.out|refine pt ?_ GE198.out|refine pt ?_ GE203.out)|exact HB.out)⟩⟩
       case round =>
        clear H'
        try clear c1
        try clear p1
        try clear q1
        try clear hx1
        try clear qi1
        try clear c2
        try clear c2b0
        try clear c2b1
        try clear p2
        try clear q2
        try clear hx2
        try clear c12
        try clear c13
        try clear c15
        try clear c15b0
        try clear c16
        try clear c16b0
        try clear c17
        try clear c17b0
        try clear hcz14_0
        try clear hfz14_0
        try clear hx199_0
        try clear hx204_0
        try clear p1
        try clear p199
        try clear p2
        try clear p204
        try clear q1
        try clear q199
        try clear q204
        obtain ⟨x27_2,x204000_2,u204000,rfl,HA,HK2,HO_204000,BK197,BK198,BK203,HB⟩:=hrel
        cases gk with
        | zero=>exact absurd HA.out (by simp [spec_l2Transposed.l1])
        | succ k2 =>
         have H:=HA.out
         clear HA
         simp only [spec_l2Transposed.l1] at H
         by_cases c18:x27_2 < ((rd_L2 l0_0 x20_1).length:Int)
         ·rw [if_pos c18] at H
          have c18b0:decide (x27_2 < ((rd_L2 l0_0 x20_1).length:Int))=true:=decide_eq_true c18
          clear c18
          by_cases c19:0≤x27_2
          ·rw [if_pos c19] at H
           have c19b0:decide (0≤x27_2)=true:=decide_eq_true c19
           clear c19
           by_cases c20:x27_2 < ((rd_L2 l0_0 x20_1).length:Int)
           ·rw [if_pos c20] at H
            have c20b0:decide (x27_2 < ((rd_L2 l0_0 x20_1).length:Int))=true:=decide_eq_true c20
            clear c20
            by_cases c21:x27_2 < (x204000_2.length:Int)
            ·rw [if_pos c21] at H
             have c21b0:decide (x27_2 < (x204000_2.length:Int))=true:=decide_eq_true c21
             clear c21
             by_cases c22:0≤x20_1
             ·rw [if_pos c22] at H
              have c22b0:decide (0≤x20_1)=true:=decide_eq_true c22
              clear c22
              by_cases c23:x20_1 < ((rd_L2 x204000_2 x27_2).length:Int)
              ·rw [if_pos c23] at H
               have c23b0:decide (x20_1 < ((rd_L2 x204000_2 x27_2).length:Int))=true:=decide_eq_true c23
               clear c23
               obtain ⟨y207,hy207⟩:∃ y_:List Int,y_=((rd_L2 x204000_2 x27_2).set (x20_1:Int).toNat (rd (rd_L2 l0_0 x20_1) x27_2)):=⟨_,rfl⟩
               replace H:(spec_l2Transposed.l1 k2 x20_1 l0_0 (l0_0.length:Int) x20_1 (rd_L2 l0_0 x20_1) ((rd_L2 l0_0 x20_1).length:Int) (wrap64 (x27_2+1)) (x204000_2.set (x27_2:Int).toNat y207))=some r:=by first|(rw [hy207];with_reducible exact H)|(have H2_:=(Option.bind_some _ _).symm.trans H;rw [hy207];with_reducible exact H2_)|(have H2_:=(Option.bind_some _ _).symm.trans H;with_reducible exact H2_)|with_reducible exact H|(rw [hy207];exact H)|exact H
               have Ny207:=am hy207
               clear hy207
               obtain ⟨y209,hy209⟩:∃ y_:List (List Int),y_=(x204000_2.set (x27_2:Int).toNat y207):=⟨_,rfl⟩
               replace H:(spec_l2Transposed.l1 k2 x20_1 l0_0 (l0_0.length:Int) x20_1 (rd_L2 l0_0 x20_1) ((rd_L2 l0_0 x20_1).length:Int) (wrap64 (x27_2+1)) y209)=some r:=by first|(rw [hy209];with_reducible exact H)|(have H2_:=(Option.bind_some _ _).symm.trans H;rw [hy209];with_reducible exact H2_)|(have H2_:=(Option.bind_some _ _).symm.trans H;with_reducible exact H2_)|with_reducible exact H|(rw [hy209];exact H)|exact H
               have Ny209:=am hy209
               clear hy209
               have H':=am H
               clear H
               have p205:0≤(x27_2:Int):=od d1
               have q205:x27_2 < ((rd_L2 l0_0 x20_1).length:Int):=od d1
               obtain ⟨ad205,e205,hx205_0⟩:=Kd.at_int HR204_0.out x27_2 p205 q205
               cases e205
               replace hx205_0:=(HB.out.cell (World.block_lt_of_cell? w _ hx205_0)).trans hx205_0
               replace p205:=eq_true p205
               replace q205:=eq_true q205
               have hnb25:=NB203_197.out
               have hnc25:=NB197_203.out
               have hnb26:=NB203_198.out
               have hnc26:=NB198_203.out
               have hcz27_0:wr.cell? ⟨gb203,0,none⟩=some (u204000):=(blk_cell BK203.out 0).trans rfl
               have hfz27_0:=blk_frozen BK203.out 0
               obtain ⟨Ao28,co28,eo28⟩:=Kd.S_slice HO_204000.out
               subst eo28
               have p206:0≤(x27_2:Int):=od d1
               have q206:x27_2 < (x204000_2.length:Int):=od d1
               obtain ⟨ad206,A206_0,c206_0,e206,hx206_0,hl206_0,hi206_0⟩:=at_L2 (Kd.S_reads' HO_204000.out).2.2 x27_2 p206 q206
               cases e206
               obtain ⟨ce206,hce206,hMe206,hcc206⟩:=Kd.S_get HO_204000.out [] x27_2 p206 (by first|exact q206|exact od d1|(have e_:=(Kd.S_reads' HO_204000.out).1;omega))
               obtain ⟨ve206_0,rfl,ge206_0⟩:=hMe206
               have hv206_0:=hcc206 0 _ rfl
               rw [Nat.add_zero,show ((Kd.slice 5 (Kd.int .u8))).sz=1 from rfl,Nat.mul_one] at hv206_0
               replace hv206_0:=Option.some.inj (hv206_0.symm.trans hx206_0)
               rw [hv206_0] at ge206_0
               have HL206_0:=am (show Kd.R (Kd.int .u8) 5 _ _ _ _ (rd_L2 x204000_2 x27_2) from ge206_0)
               clear hv206_0 ge206_0
               have HX206_0:=am hx206_0
               clear hcc206 hce206
               have HR206_0:=am hi206_0
               have HC206_0:=am hl206_0
               clear hi206_0 hl206_0
               replace p206:=eq_true p206
               replace q206:=eq_true q206
               have p24:0≤(x20_1:Int):=od d1
               have q24:(x20_1:Int) < (((rd_L2 x204000_2 x27_2).length:Int):Int):=od d1
               obtain ⟨go24,co24,eo24,gb24,gl24,cl24,HG24⟩:=Kd.R_form HL206_0.out d10
               (first|cases eo24|(injection eo24 with ea_ en_ ec_;(first|subst ea_|(injection ea_ with ea_;subst ea_));subst ec_;clear en_))
               have GB24:=am gb24
               have GG24:=am HG24
               clear gb24 gl24 HG24
               obtain ⟨hx24_0,hf24_0⟩:=Kd.R_celln 0 HL206_0.out (x20_1:Int) p24 q24
               replace p24:=eq_true p24
               replace q24:=eq_true q24
               have hq29:(x27_2:Int) < (x204000_2.length:Int):=(by have h_:(x27_2:Int) < ((x204000_2.length:Int):Int):=od d1;first|exact h_|(have e_:=(Kd.S_reads' HO_204000.out).1;omega)|simpa only [List.length_set,List.length_set] using h_)
               obtain ⟨oki29,ce29,hcl29,hM29,hcc29,hok29,hbk29⟩:=Kd.S_borrow HO_204000.out [] (x27_2:Int) (od d1) hq29
               obtain ⟨ve29_0,rfl,ge29_0⟩:=hM29
               have hv29:=hcc29 0 _ rfl
               rw [Nat.add_zero,show ((Kd.slice 5 (Kd.int .u8))).sz=1 from rfl,Nat.mul_one] at hv29
               replace hv29:=Option.some.inj (hv29.symm.trans HX206_0.out)
               subst hv29
               clear hcc29 hcl29
               replace ge29_0:=(show Kd.R (Kd.int .u8) 5 _ _ _ _ (rd_L2 x204000_2 x27_2) from ge29_0)
               have HP29:=Kd.R_putg ge29_0 (x20_1:Int) (rd (rd_L2 l0_0 x20_1) x27_2)
               go_wp2_with (first|((with_reducible refine gate_store (t:=5) (p:=39) rfl ?_);refine store_event (t:=5) (p:=39) (v:=?vo_w30) (w1:=(wr.setCell ⟨go24,(x20_1:Int).toNat,none⟩ (.int .u8 (rd (rd_L2 l0_0 x20_1) x27_2)))) ?hg ?ho ?hn ?hr ?_;(case ho=>rfl);(case hg=>rfl);(case hn=>rfl);(case hr=>first|(go_simp;done)|(go_simp;rfl));intro w30 hw;have hg:wr.grownBy w30 (some go24):=(by rw [hw];exact HP29.2);have hz_:Kd.R (Kd.int .u8) 5 w30 w.heap.size oki29 (.slice (some ⟨go24,0,none⟩) (rd_L2 x204000_2 x27_2).length c206_0) y207:=(by rw [hw,Ny207.out];exact HP29.1);have hp_:Kd.S (Kd.slice 5 (Kd.int .u8)) 57 w30 w.heap.size (fun _=>True) (.slice (some ad206) x204000_2.length co28) y209:=(by rw [Ny209.out];exact hbk29 hg (fun k_ e_=>by injection e_ with e_;subst e_;exact ge29_0.1 _ rfl) (Kd.M_row hz_));have hm_:=Kd.R_mono hz_ hok29;clear HP29 hbk29;have n0_:=am (hp_);have n1_:=am (blk_grown (g:=gb197) (o:=.cells #[.slice (some ad199) l0_0.length c0_0] 43 (0,0)) (by (with_reducible repeat (first|refine qn ?_ _|refine qd ?_|refine qa ?_ _));exact BK197.out) hg (Kd.R_ne HL206_0.out BK197.out d11));have n2_:=am (blk_grown (g:=gb198) (o:=.cells #[.slice none 0 0] 43 (0,0)) (by (with_reducible repeat (first|refine qn ?_ _|refine qd ?_|refine qa ?_ _));exact BK198.out) hg (Kd.R_ne HL206_0.out BK198.out d11));have n3_:=am (blk_grown (g:=gb203) (o:=.cells #[.slice (some ad206) x204000_2.length co28] 43 (0,0)) (by (with_reducible repeat (first|refine qn ?_ _|refine qd ?_|refine qa ?_ _));exact BK203.out) hg (Kd.R_ne HL206_0.out BK203.out d11));have n4_:=am ((by rw [hw];exact pt (HB.out) GB24.out:Below w.heap.size w w30));have n5_:=am (hm_);have n6_:=am ((Kd.R_reads' hm_).2.1);clear HO_204000;clear BK197;clear BK198;clear BK203;clear HB;clear HL206_0;have HO_204000:=n0_;have BK197:=n1_;have BK198:=n2_;have BK203:=n3_;have HB:=n4_;have HL210:=n5_;have HC208:=n6_;clear n0_ n1_ n2_ n3_ n4_ n5_ n6_;clear hg hw hp_ hz_ hm_ hok29))
               go_roundg k2
               case measure=>have:=HK1.out;have:=HK2.out;omega
               case rel=>exact ⟨(wrap64 (x27_2+1)),(y209),(.slice (some ad206) x204000_2.length co28),d2,H',⟨by have:=HK1.out;have:=HK2.out;omega⟩,⟨d53⟩,⟨by (with_reducible repeat (first|refine qn ?_ _|refine qd ?_|refine qa ?_ _));exact BK197.out⟩,⟨by (with_reducible repeat (first|refine qn ?_ _|refine qd ?_|refine qa ?_ _));exact BK198.out⟩,⟨by (with_reducible repeat (first|refine qn ?_ _|refine qd ?_|refine qa ?_ _));exact BK203.out⟩,⟨by repeat (first|(with_reducible first|exact HB.out|apply pa|apply pb|apply pd|refine pt ?_ GE197.out|refine pt ?_ GE198.out|refine pt ?_ GE203.out)|exact HB.out)⟩⟩
              rw [if_neg c23] at H
              exact absurd H d20
             rw [if_neg c22] at H
             exact absurd H d20
            rw [if_neg c21] at H
            exact absurd H d20
           rw [if_neg c20] at H
           exact absurd H d20
          rw [if_neg c19] at H
          exact absurd H d20
         rw [if_neg c18] at H
         have c18b0:decide (x27_2 < ((rd_L2 l0_0 x20_1).length:Int))=false:=decide_eq_false c18
         clear c18
         have H':=am H
         clear H
         go_wp2
         go_roundg k2
         case measure=>have:=HK1.out;have:=HK2.out;omega
         case rel=>exact ⟨(wrap64 (x20_1+1)),(x204000_2),(u204000),d2,H',⟨by have:=HK1.out;have:=HK2.out;omega⟩,⟨d53⟩,⟨by (with_reducible repeat (first|refine qn ?_ _|refine qd ?_|refine qa ?_ _));exact BK197.out⟩,⟨by (with_reducible repeat (first|refine qn ?_ _|refine qd ?_|refine qa ?_ _));exact BK198.out⟩,⟨by (with_reducible repeat (first|refine qn ?_ _|refine qd ?_|refine qa ?_ _));exact BK203.out⟩,⟨by repeat (first|(with_reducible first|exact HB.out|apply pa|apply pb|apply pd|refine pt ?_ GE197.out|refine pt ?_ GE198.out|refine pt ?_ GE203.out)|exact HB.out)⟩⟩
      rw [if_neg c17] at H
      exact absurd H d20
     rw [if_neg c16] at H
     exact absurd H d20
    rw [if_neg c15] at H
    have c15b0:decide (x20_1 < (l0_0.length:Int))=false:=decide_eq_false c15
    clear c15
    obtain rfl:=Option.some.inj H
    have hnb31:=NB203_197.out
    have hnc31:=NB197_203.out
    have hnb32:=NB203_198.out
    have hnc32:=NB198_203.out
    have hcz33_0:wr.cell? ⟨gb203,0,none⟩=some (u204000):=(blk_cell BK203.out 0).trans rfl
    have hfz33_0:=blk_frozen BK203.out 0
    obtain ⟨Ao34,co34,eo34⟩:=Kd.S_slice HO_204000.out
    subst eo34
    have hnb35:=NB198_197.out
    have hnc35:=NB197_198.out
    have hcz36_0:wr.cell? ⟨gb198,0,none⟩=some (.slice none 0 0):=(blk_cell BK198.out 0).trans rfl
    have hfz36_0:=blk_frozen BK198.out 0
    go_wp2
    refine bodyPost_ret (results_cell_row rfl _ _ gb198 43 #[.slice Ao34 x204000_1.length co34] (0,0) _ rfl (by (with_reducible repeat (first|refine qn ?_ _|refine qd ?_|refine qa ?_ _));refine blk_put (cs:=#[.slice none 0 0]) ?_ 0 _ rfl;(with_reducible repeat (first|refine qn ?_ _|refine qd ?_|refine qa ?_ _));exact BK198.out) Try.underlying43 rfl d3) rfl ?_
    exact ⟨_,d4,by (with_reducible repeat (first|apply Kd.S_alloc|apply Kd.S_drewN|apply Kd.S_drew));exact Kd.S_mono (Kd.S_far (p:=⟨gb198,0,none⟩) (Kd.S_types HO_204000.out BK198.out d11) (fun _ hk=>hk.2) (.slice Ao34 x204000_1.length co34)) (fun _ hk=>trivial),by repeat (first|(with_reducible first|exact HB.out|apply pa|apply pb|apply pd|refine pt ?_ GE197.out|refine pt ?_ GE198.out|refine pt ?_ GE203.out)|exact HB.out)⟩
 rw [if_neg c2] at H
 exact absurd H d20

end Go.Proofs.Ytajikfnpcobnpaa.PFnExactDecodeMsr
-- HALVED
-- SQUEEZED
-- SQUEEZED2
-- SQUEEZED3
-- SQUEEZED4
-- SQUEEZED5
-- SQUEEZED6
