-- Laid by a program of this session.
import Derived.Test.YtajikfnpcobnpaaPFnExactRebuildShardx0
import Derived.Test.YtajikfnpcobnpaaPFnExactRebuildShardx1
import Derived.Test.YtajikfnpcobnpaaPFnExactRebuildShardx9
import Derived.Test.YtajikfnpcobnpaaPFnExactRebuildShardx13
namespace Go.Proofs.Ytajikfnpcobnpaa.PFnExactRebuildShard
open Go.RowKit Go.Proofs.YtajikfnpcobnpaaW.PrintWords Go.Proofs.YtajikfnpcobnpaaW.PrintLast Go.Proofs.YtajikfnpcobnpaaW.PrintMore
attribute [local go_sem] max2_int min2_int max_two min_two max_three min_three max_four min_four   -- for this text's walks alone
set_option linter.unusedVariables false
set_option linter.unusedSimpArgs false

def laws_eqShard.f (a0_0 : Int) (a0_1 : ByteArray) (a1_0 : Int) (a1_1 : ByteArray) : Option (Bool):=if a0_0=a1_0 then (if a0_1.toList=a1_1.toList then (some true) else (some false)) else (some false)
set_option maxHeartbeats 8000000 in
set_option maxRecDepth 100000 in
theorem laws_eqShard.calls (a0_0 : Int) (a0_1 : ByteArray) (a1_0 : Int) (a1_1 : ByteArray) (r : Bool) (w : World) (h : laws_eqShard.f a0_0 a0_1 a1_0 a1_1=some r) :
  Calls Try.prog 57 #[.agg #[.int .i64 a0_0, .string a0_1], .agg #[.int .i64 a1_0, .string a1_1]] w fun e w'=>e = .returned (.bool r)∧Below w.heap.size w w':=by
 have hu84:=Try.underlying84
 have HB:=am (Below.refl w.heap.size w)
 have H : (if a0_0=a1_0 then (if a0_1.toList=a1_1.toList then (some true) else (some false)) else (some false))=some r:=h
 clear h
 by_cases c3 : a0_0=a1_0
 ·rw [if_pos c3] at H
  have c3b0 : (a0_0 == a1_0)=true:=beq_iff_eq.mpr c3
  have c3b1 : (a0_0 != a1_0)=false:=bne_eq_false_iff_eq.mpr c3
  clear c3
  by_cases c4 : a0_1.toList=a1_1.toList
  ·rw [if_pos c4] at H
   have c4b0 : (a0_1.toList == a1_1.toList)=true:=beq_iff_eq.mpr c4
   have c4b1 : (a0_1.toList != a1_1.toList)=false:=bne_eq_false_iff_eq.mpr c4
   clear c4
   obtain rfl:=Option.some.inj H
   go_enter Try.func57,Try.ntmps57
   go_wp2_with (first|((with_reducible refine gate_dst (N:=2) rfl ?_);refine box_event ?hg (N:=2) ?hd (cs:=#[.int .i64 a0_0, .string a0_1]) (t:=84) ?hr ?_;(case hd=>rfl);(case hg=>rfl);(case hr=>first|(go_simp;done)|(go_simp;rfl));intro gb379 hg w5 hbox hb;have n0_:=am (pu (by repeat (first|(with_reducible first|exact HB.out|apply pa|apply pb|apply pd)|exact HB.out)) hb);have n1_:=am (hbox);have n2_:=am ((by rw [hg];exact (pz (by repeat (first|(with_reducible first|exact HB.out|apply pa|apply pb|apply pd)|exact HB.out))) : w.heap.size≤gb379));have n3_:=am ((by rw [hg];exact (pz (by repeat (first|(with_reducible first|exact HB.out|apply pa|apply pb|apply pd)|exact HB.out))) : w.heap.size≤gb379));clear HB;have HB:=n0_;have BK379:=n1_;have GW379:=n2_;have GE379:=n3_;clear n0_ n1_ n2_ n3_;clear hb hbox hg)|((with_reducible refine gate_dst (N:=3) rfl ?_);refine box_event ?hg (N:=3) ?hd (cs:=#[.int .i64 a1_0, .string a1_1]) (t:=84) ?hr ?_;(case hd=>rfl);(case hg=>rfl);(case hr=>first|(go_simp;done)|(go_simp;rfl));intro gb380 hg w6 hbox hb;have n0_:=am (qb (g:=gb379) (o:=.cells #[.int .i64 a0_0, .string a0_1] 84 (0,0)) (by (with_reducible repeat (first|refine qn ?_ _|refine qd ?_|refine qa ?_ _));exact BK379.out) hb);have n1_:=am (pu (by repeat (first|(with_reducible first|exact HB.out|apply pa|apply pb|apply pd|refine pt ?_ GE379.out)|exact HB.out)) hb);have n2_:=am (hbox);have n3_:=am ((by rw [hg];exact (pz (by repeat (first|(with_reducible first|exact HB.out|apply pa|apply pb|apply pd|refine pt ?_ GE379.out)|exact HB.out))) : w.heap.size≤gb380));have n4_:=am ((by rw [hg];exact (pz (by repeat (first|(with_reducible first|exact HB.out|apply pa|apply pb|apply pd|refine pt ?_ GE379.out)|exact HB.out))) : w.heap.size≤gb380));have n5_:=am ((by rw [hg];exact Nat.ne_of_lt (blk_lt (g:=gb379) (o:=.cells #[.int .i64 a0_0, .string a0_1] 84 (0,0)) (by (with_reducible repeat (first|refine qn ?_ _|refine qd ?_|refine qa ?_ _));exact BK379.out)) : gb379 ≠ gb380));have n6_:=am ((by rw [hg];exact Nat.ne_of_gt (blk_lt (g:=gb379) (o:=.cells #[.int .i64 a0_0, .string a0_1] 84 (0,0)) (by (with_reducible repeat (first|refine qn ?_ _|refine qd ?_|refine qa ?_ _));exact BK379.out)) : gb380 ≠ gb379));clear BK379;clear HB;have BK379:=n0_;have HB:=n1_;have BK380:=n2_;have GW380:=n3_;have GE380:=n4_;have NB379_380:=n5_;have NB380_379:=n6_;clear n0_ n1_ n2_ n3_ n4_ n5_ n6_;clear hb hbox hg;have hnb7:=NB379_380.out;have hnc7:=NB380_379.out;have hcz8_0 : w6.cell? ⟨gb379,0,none⟩=some (.int .i64 a0_0):=(blk_cell BK379.out 0).trans rfl;have hcz8_1 : w6.cell? ⟨gb379,1,none⟩=some (.string a0_1):=(blk_cell BK379.out 1).trans rfl;have hfz8_0:=blk_frozen BK379.out 0;have hfz8_1:=blk_frozen BK379.out 1;have hcz9_0 : w6.cell? ⟨gb380,0,none⟩=some (.int .i64 a1_0):=(blk_cell BK380.out 0).trans rfl;have hcz9_1 : w6.cell? ⟨gb380,1,none⟩=some (.string a1_1):=(blk_cell BK380.out 1).trans rfl;have hfz9_0:=blk_frozen BK380.out 0;have hfz9_1:=blk_frozen BK380.out 1))
   go_ret
   exact ⟨by first|rfl|(simp [errW_none,errW_some] <;> rfl)|(simp [*,errW_none,errW_some] <;> rfl),by repeat (first|(with_reducible first|exact HB.out|apply pa|apply pb|apply pd|refine pt ?_ GE379.out|refine pt ?_ GE380.out)|exact HB.out)⟩
  ·rw [if_neg c4] at H
   have c4b0 : (a0_1.toList == a1_1.toList)=false:=beq_eq_false_iff_ne.mpr c4
   have c4b1 : (a0_1.toList != a1_1.toList)=true:=bne_iff_ne.mpr c4
   obtain rfl:=Option.some.inj H
   go_enter Try.func57,Try.ntmps57
   go_wp2_with (first|((with_reducible refine gate_dst (N:=2) rfl ?_);refine box_event ?hg (N:=2) ?hd (cs:=#[.int .i64 a0_0, .string a0_1]) (t:=84) ?hr ?_;(case hd=>rfl);(case hg=>rfl);(case hr=>first|(go_simp;done)|(go_simp;rfl));intro gb379 hg w10 hbox hb;have n0_:=am (pu (by repeat (first|(with_reducible first|exact HB.out|apply pa|apply pb|apply pd)|exact HB.out)) hb);have n1_:=am (hbox);have n2_:=am ((by rw [hg];exact (pz (by repeat (first|(with_reducible first|exact HB.out|apply pa|apply pb|apply pd)|exact HB.out))) : w.heap.size≤gb379));have n3_:=am ((by rw [hg];exact (pz (by repeat (first|(with_reducible first|exact HB.out|apply pa|apply pb|apply pd)|exact HB.out))) : w.heap.size≤gb379));clear HB;have HB:=n0_;have BK379:=n1_;have GW379:=n2_;have GE379:=n3_;clear n0_ n1_ n2_ n3_;clear hb hbox hg)|((with_reducible refine gate_dst (N:=3) rfl ?_);refine box_event ?hg (N:=3) ?hd (cs:=#[.int .i64 a1_0, .string a1_1]) (t:=84) ?hr ?_;(case hd=>rfl);(case hg=>rfl);(case hr=>first|(go_simp;done)|(go_simp;rfl));intro gb380 hg w11 hbox hb;have n0_:=am (qb (g:=gb379) (o:=.cells #[.int .i64 a0_0, .string a0_1] 84 (0,0)) (by (with_reducible repeat (first|refine qn ?_ _|refine qd ?_|refine qa ?_ _));exact BK379.out) hb);have n1_:=am (pu (by repeat (first|(with_reducible first|exact HB.out|apply pa|apply pb|apply pd|refine pt ?_ GE379.out)|exact HB.out)) hb);have n2_:=am (hbox);have n3_:=am ((by rw [hg];exact (pz (by repeat (first|(with_reducible first|exact HB.out|apply pa|apply pb|apply pd|refine pt ?_ GE379.out)|exact HB.out))) : w.heap.size≤gb380));have n4_:=am ((by rw [hg];exact (pz (by repeat (first|(with_reducible first|exact HB.out|apply pa|apply pb|apply pd|refine pt ?_ GE379.out)|exact HB.out))) : w.heap.size≤gb380));have n5_:=am ((by rw [hg];exact Nat.ne_of_lt (blk_lt (g:=gb379) (o:=.cells #[.int .i64 a0_0, .string a0_1] 84 (0,0)) (by (with_reducible repeat (first|refine qn ?_ _|refine qd ?_|refine qa ?_ _));exact BK379.out)) : gb379 ≠ gb380));have n6_:=am ((by rw [hg];exact Nat.ne_of_gt (blk_lt (g:=gb379) (o:=.cells #[.int .i64 a0_0, .string a0_1] 84 (0,0)) (by (with_reducible repeat (first|refine qn ?_ _|refine qd ?_|refine qa ?_ _));exact BK379.out)) : gb380 ≠ gb379));clear BK379;clear HB;have BK379:=n0_;have HB:=n1_;have BK380:=n2_;have GW380:=n3_;have GE380:=n4_;have NB379_380:=n5_;have NB380_379:=n6_;clear n0_ n1_ n2_ n3_ n4_ n5_ n6_;clear hb hbox hg;have hnb12:=NB379_380.out;have hnc12:=NB380_379.out;have hcz13_0 : w11.cell? ⟨gb379,0,none⟩=some (.int .i64 a0_0):=(blk_cell BK379.out 0).trans rfl;have hcz13_1 : w11.cell? ⟨gb379,1,none⟩=some (.string a0_1):=(blk_cell BK379.out 1).trans rfl;have hfz13_0:=blk_frozen BK379.out 0;have hfz13_1:=blk_frozen BK379.out 1;have hcz14_0 : w11.cell? ⟨gb380,0,none⟩=some (.int .i64 a1_0):=(blk_cell BK380.out 0).trans rfl;have hcz14_1 : w11.cell? ⟨gb380,1,none⟩=some (.string a1_1):=(blk_cell BK380.out 1).trans rfl;have hfz14_0:=blk_frozen BK380.out 0;have hfz14_1:=blk_frozen BK380.out 1))
   go_ret
   exact ⟨by first|rfl|(simp [errW_none,errW_some] <;> rfl)|(simp [*,errW_none,errW_some] <;> rfl),by repeat (first|(with_reducible first|exact HB.out|apply pa|apply pb|apply pd|refine pt ?_ GE379.out|refine pt ?_ GE380.out)|exact HB.out)⟩
 ·rw [if_neg c3] at H
  have c3b0 : (a0_0 == a1_0)=false:=beq_eq_false_iff_ne.mpr c3
  have c3b1 : (a0_0 != a1_0)=true:=bne_iff_ne.mpr c3
  obtain rfl:=Option.some.inj H
  go_enter Try.func57,Try.ntmps57
  go_wp2_with (first|((with_reducible refine gate_dst (N:=2) rfl ?_);refine box_event ?hg (N:=2) ?hd (cs:=#[.int .i64 a0_0, .string a0_1]) (t:=84) ?hr ?_;(case hd=>rfl);(case hg=>rfl);(case hr=>first|(go_simp;done)|(go_simp;rfl));intro gb379 hg w15 hbox hb;have n0_:=am (pu (by repeat (first|(with_reducible first|exact HB.out|apply pa|apply pb|apply pd)|exact HB.out)) hb);have n1_:=am (hbox);have n2_:=am ((by rw [hg];exact (pz (by repeat (first|(with_reducible first|exact HB.out|apply pa|apply pb|apply pd)|exact HB.out))) : w.heap.size≤gb379));have n3_:=am ((by rw [hg];exact (pz (by repeat (first|(with_reducible first|exact HB.out|apply pa|apply pb|apply pd)|exact HB.out))) : w.heap.size≤gb379));clear HB;have HB:=n0_;have BK379:=n1_;have GW379:=n2_;have GE379:=n3_;clear n0_ n1_ n2_ n3_;clear hb hbox hg)|((with_reducible refine gate_dst (N:=3) rfl ?_);refine box_event ?hg (N:=3) ?hd (cs:=#[.int .i64 a1_0, .string a1_1]) (t:=84) ?hr ?_;(case hd=>rfl);(case hg=>rfl);(case hr=>first|(go_simp;done)|(go_simp;rfl));intro gb380 hg w16 hbox hb;have n0_:=am (qb (g:=gb379) (o:=.cells #[.int .i64 a0_0, .string a0_1] 84 (0,0)) (by (with_reducible repeat (first|refine qn ?_ _|refine qd ?_|refine qa ?_ _));exact BK379.out) hb);have n1_:=am (pu (by repeat (first|(with_reducible first|exact HB.out|apply pa|apply pb|apply pd|refine pt ?_ GE379.out)|exact HB.out)) hb);have n2_:=am (hbox);have n3_:=am ((by rw [hg];exact (pz (by repeat (first|(with_reducible first|exact HB.out|apply pa|apply pb|apply pd|refine pt ?_ GE379.out)|exact HB.out))) : w.heap.size≤gb380));have n4_:=am ((by rw [hg];exact (pz (by repeat (first|(with_reducible first|exact HB.out|apply pa|apply pb|apply pd|refine pt ?_ GE379.out)|exact HB.out))) : w.heap.size≤gb380));have n5_:=am ((by rw [hg];exact Nat.ne_of_lt (blk_lt (g:=gb379) (o:=.cells #[.int .i64 a0_0, .string a0_1] 84 (0,0)) (by (with_reducible repeat (first|refine qn ?_ _|refine qd ?_|refine qa ?_ _));exact BK379.out)) : gb379 ≠ gb380));have n6_:=am ((by rw [hg];exact Nat.ne_of_gt (blk_lt (g:=gb379) (o:=.cells #[.int .i64 a0_0, .string a0_1] 84 (0,0)) (by (with_reducible repeat (first|refine qn ?_ _|refine qd ?_|refine qa ?_ _));exact BK379.out)) : gb380 ≠ gb379));clear BK379;clear HB;have BK379:=n0_;have HB:=n1_;have BK380:=n2_;have GW380:=n3_;have GE380:=n4_;have NB379_380:=n5_;have NB380_379:=n6_;clear n0_ n1_ n2_ n3_ n4_ n5_ n6_;clear hb hbox hg;have hnb17:=NB379_380.out;have hnc17:=NB380_379.out;have hcz18_0 : w16.cell? ⟨gb379,0,none⟩=some (.int .i64 a0_0):=(blk_cell BK379.out 0).trans rfl;have hcz18_1 : w16.cell? ⟨gb379,1,none⟩=some (.string a0_1):=(blk_cell BK379.out 1).trans rfl;have hfz18_0:=blk_frozen BK379.out 0;have hfz18_1:=blk_frozen BK379.out 1;have hcz19_0 : w16.cell? ⟨gb380,0,none⟩=some (.int .i64 a1_0):=(blk_cell BK380.out 0).trans rfl;have hcz19_1 : w16.cell? ⟨gb380,1,none⟩=some (.string a1_1):=(blk_cell BK380.out 1).trans rfl;have hfz19_0:=blk_frozen BK380.out 0;have hfz19_1:=blk_frozen BK380.out 1))
  go_ret
  exact ⟨by first|rfl|(simp [errW_none,errW_some] <;> rfl)|(simp [*,errW_none,errW_some] <;> rfl),by repeat (first|(with_reducible first|exact HB.out|apply pa|apply pb|apply pd|refine pt ?_ GE379.out|refine pt ?_ GE380.out)|exact HB.out)⟩

def laws_eqShardS.l0 : Nat→List (S84)→List (S84)→Int→Option (Bool)
 | 0,_,_,_=>none
 | k+1,x0,x1,x5=>if x5 < (x0.length : Int) then (if 0≤x5 then (if x5 < (x1.length : Int) then ((laws_eqShard.f ((rd_T84 x0 x5).f0) ((rd_T84 x0 x5).f1) ((rd_T84 x1 x5).f0) ((rd_T84 x1 x5).f1)).bind fun t383=>(if t383=true then (laws_eqShardS.l0 k x0 x1 (wrap64 (x5+1))) else (some false))) else (none)) else (none)) else (some true)
def laws_eqShardS.f (k : Nat) (l0 : List (S84)) (l1 : List (S84)) : Option (Bool):=if (l0.length : Int)=(l1.length : Int) then (laws_eqShardS.l0 k l0 l1 0) else (some false)
theorem laws_eqShardS.mono_l : ∀ k,(∀ y0 y1 y2,LeO (laws_eqShardS.l0 k y0 y1 y2) (laws_eqShardS.l0 (k+1) y0 y1 y2))
 | 0=>fun _ _ _ r h=>by simp [laws_eqShardS.l0] at h
 | k+1=>by
  have ih0:=laws_eqShardS.mono_l k
  ·intro y0 y1 y2
   unfold laws_eqShardS.l0
   repeat' first
   | (with_reducible exact ih0 _ _ _)
   | (with_reducible exact LeO.refl _)
   | (with_reducible exact LeO.none _)
   | (with_reducible refine LeO.ite ?_ ?_)
   | (with_reducible refine LeO.bind ?_ (fun _=>?_))
   | exact ih0 _ _ _
   | exact LeO.none _
   | refine LeO.ite ?_ ?_
   | refine LeO.bind ?_ (fun _=>?_)
theorem laws_eqShardS.mono : ∀ a0 a1 k,LeO (laws_eqShardS.f k a0 a1) (laws_eqShardS.f (k+1) a0 a1):=by
 intro a0 a1 k
 have ih0:=laws_eqShardS.mono_l k
 unfold laws_eqShardS.f
 repeat' first
   | (with_reducible exact ih0 _ _ _)
   | (with_reducible exact LeO.refl _)
   | (with_reducible exact LeO.none _)
   | (with_reducible refine LeO.ite ?_ ?_)
   | (with_reducible refine LeO.bind ?_ (fun _=>?_))
   | exact ih0 _ _ _
   | exact LeO.none _
   | refine LeO.ite ?_ ?_
   | refine LeO.bind ?_ (fun _=>?_)
def laws_eqShardS.T6 : Bool × List (List Nat × List Nat):=(true,[([],[]),([],[]),([0,1],[0,1]),([2],[2]),([],[]),([],[]),([4,5],[4,5]),([6],[6]),([3,7],[3,7]),([8],[8])])
def laws_eqShardS.B6 : List Nat:=[0,0,3,7,0,0,48,112,255,511]
theorem laws_eqShardS.tab6 : rtab .any (opsOf Try.f58 6)=laws_eqShardS.T6:=by kernel_rfl
theorem laws_eqShardS.bits6 : waitsOk laws_eqShardS.T6.2 laws_eqShardS.B6=true:=by kernel_rfl
set_option maxHeartbeats 8000000 in
set_option maxRecDepth 100000 in
theorem laws_eqShardS.calls (k : Nat) (A0 : Option Addr) (c0 : Nat) (l0 : List (S84)) (A1 : Option Addr) (c1 : Nat) (l1 : List (S84)) (r : Bool) (w : World) (hr0 : Kd.C k84 w A0 l0.length l0) (hc0 : l0.length≤c0) (hr1 : Kd.C k84 w A1 l1.length l1) (hc1 : l1.length≤c1) (h : laws_eqShardS.f k l0 l1=some r) :
  Calls Try.prog 58 #[.slice A0 l0.length c0, .slice A1 l1.length c1] w fun e w'=>e = .returned (.bool r)∧Below w.heap.size w w':=by
 have hu84:=Try.underlying84
 have HR0:=am hr0
 have HC0:=am hc0
 clear hr0 hc0
 have HR1:=am hr1
 have HC1:=am hc1
 clear hr1 hc1
 have HB:=am (Below.refl w.heap.size w)
 have H : (if (l0.length : Int)=(l1.length : Int) then (laws_eqShardS.l0 k l0 l1 0) else (some false))=some r:=h
 clear h
 by_cases c3 : (l0.length : Int)=(l1.length : Int)
 ·rw [if_pos c3] at H
  have c3b0 : ((l0.length : Int) == (l1.length : Int))=true:=beq_iff_eq.mpr c3
  have c3b1 : ((l0.length : Int) != (l1.length : Int))=false:=bne_eq_false_iff_eq.mpr c3
  have c3b2 : (l0.length == l1.length)=true:=by first|simpa using c3|(simp at c3 ⊢;omega)
  clear c3
  have H':=am H
  clear H
  go_enter Try.func58,Try.ntmps58
  go_wp2
  go_loopg [5] k (fun kq v5 w'=>∃ (x5_1 : Int),v5 = .int .i64 x5_1∧Aside0 (laws_eqShardS.l0 kq l0 l1 x5_1=some r)∧Aside0 (kq≤k)∧Aside0 (Below w.heap.size w w'))
  case atStart=>exact ⟨(0),(by first|rfl|(simp;done)|(simp [*];done)),H',⟨Nat.le_refl _⟩,⟨by repeat (first|(with_reducible first|exact HB.out|apply pa|apply pb|apply pd)|exact HB.out)⟩⟩
  case round =>
   clear H'
   try clear c1
   try clear p2
   try clear c3
   try clear c3b0
   try clear c3b1
   try clear c3b2
   obtain ⟨x5_1,rfl,HA,HK1,HB⟩:=hrel
   cases gk with
   | zero=>exact absurd HA.out (by simp [laws_eqShardS.l0])
   | succ k1 =>
    have H:=HA.out
    clear HA
    simp only [laws_eqShardS.l0] at H
    by_cases c4 : x5_1 < (l0.length : Int)
    ·rw [if_pos c4] at H
     have c4b0 : decide (x5_1 < (l0.length : Int))=true:=decide_eq_true c4
     clear c4
     by_cases c5 : 0≤x5_1
     ·rw [if_pos c5] at H
      have c5b0 : decide (0≤x5_1)=true:=decide_eq_true c5
      clear c5
      by_cases c6 : x5_1 < (l1.length : Int)
      ·rw [if_pos c6] at H
       have c6b0 : decide (x5_1 < (l1.length : Int))=true:=decide_eq_true c6
       clear c6
       replace H:=Option.bind_eq_some_iff.mp H
       obtain ⟨t383,A70,H⟩:=H
       replace H : (if t383=true then (laws_eqShardS.l0 k1 l0 l1 (wrap64 (x5_1+1))) else (some false))=some r:=H
       have A7:=am A70
       clear A70
       by_cases c8 : t383=true
       ·subst c8
        have H1 : (laws_eqShardS.l0 k1 l0 l1 (wrap64 (x5_1+1)))=some r:=by rw [if_pos rfl] at H;exact H
        clear H
        have H:=H1
        clear H1
        have H':=am H
        clear H
        try go_wp2
        have n0_:=am (pd HB.out)
        clear HB
        have HB:=n0_
        clear n0_
        have p381 : 0≤(x5_1 : Int):=of_decide_eq_true (by first|(with_reducible assumption)|assumption)
        have q381 : x5_1 < (l0.length : Int):=of_decide_eq_true (by first|(with_reducible assumption)|assumption)
        obtain ⟨ad381,e381,hx381_0,hx381_1⟩:=at_T84 HR0.out x5_1 p381 q381
        have hw381_1:=hx381_1
        have hw381_0:=hx381_0
        cases e381
        replace hx381_0:=(HB.out.cell (World.block_lt_of_cell? w _ hx381_0)).trans hx381_0
        replace hx381_1:=(HB.out.cell (World.block_lt_of_cell? w _ hx381_1)).trans hx381_1
        replace p381:=eq_true p381
        replace q381:=eq_true q381
        have p382 : 0≤(x5_1 : Int):=of_decide_eq_true (by first|(with_reducible assumption)|assumption)
        have q382 : x5_1 < (l1.length : Int):=of_decide_eq_true (by first|(with_reducible assumption)|assumption)
        obtain ⟨ad382,e382,hx382_0,hx382_1⟩:=at_T84 HR1.out x5_1 p382 q382
        have hw382_1:=hx382_1
        have hw382_0:=hx382_0
        cases e382
        replace hx382_0:=(HB.out.cell (World.block_lt_of_cell? w _ hx382_0)).trans hx382_0
        replace hx382_1:=(HB.out.cell (World.block_lt_of_cell? w _ hx382_1)).trans hx382_1
        replace p382:=eq_true p382
        replace q382:=eq_true q382
        refine start_ (n:=10) (S:=fun w'=>w'.cell? (ad381.add ((x5_1).toNat*2))=some (.int .i64 ((rd_T84 l0 x5_1).f0))∧w'.cell? ⟨(ad381.add ((x5_1).toNat*2)).block,(ad381.add ((x5_1).toNat*2)).off+1,none⟩=some (.string ((rd_T84 l0 x5_1).f1))∧w'.cell? (ad382.add ((x5_1).toNat*2))=some (.int .i64 ((rd_T84 l1 x5_1).f0))∧w'.cell? ⟨(ad382.add ((x5_1).toNat*2)).block,(ad382.add ((x5_1).toNat*2)).off+1,none⟩=some (.string ((rd_T84 l1 x5_1).f1))) (ds:=[]) #[Z,Z,Z,Z,Z,Z,Z,Z,Z,Z] (by kernel_rfl) rfl rfl ⟨((HB.out.cell (World.block_lt_of_cell? w _ hw381_0)).trans hw381_0),((HB.out.cell (World.block_lt_of_cell? w _ hw381_1)).trans hw381_1),((HB.out.cell (World.block_lt_of_cell? w _ hw382_0)).trans hw382_0),((HB.out.cell (World.block_lt_of_cell? w _ hw382_1)).trans hw382_1)⟩ (fun hHeld=>?_);refine with_tabW laws_eqShardS.tab6 laws_eqShardS.bits6 (fun HT_ HW_=>?_)
        generalize wr.drew=w9 at HB hx381_0 hx381_1 hx382_0 hx382_1 hHeld ⊢
        refine pure_ (i:=0) (N:=some 17) (v:=?_) (a':=?_) #[Y,Z,Z,Z,Z,Z,Z,Z,Z,Z] rfl rfl (any_of HT_.out (by kernel_rfl)) hh (Or.inl ⟨by rfl,?_⟩) ?_ ?_
        rotate_left
        ·intro w'
         go_simp
         with_reducible rfl
        rotate_left
        ·simp only [Act.put,q1,q2,q3,i64_w,i32_w]
         rfl
        refine pure_ (i:=1) (N:=some 18) (v:=?_) (a':=?_) #[Y,Y,Z,Z,Z,Z,Z,Z,Z,Z] rfl rfl (any_of HT_.out (by kernel_rfl)) hh (Or.inl ⟨by rfl,?_⟩) ?_ ?_
        rotate_left
        ·intro w'
         go_simp
         with_reducible rfl
        rotate_left
        ·simp only [Act.put,q1,q2,q3,i64_w,i32_w]
         rfl
        refine pure_ (i:=2) (N:=some 19) (v:=?_) (a':=?_) #[Y,Y,Y,Z,Z,Z,Z,Z,Z,Z] rfl rfl (any_of HT_.out (by kernel_rfl)) hh (Or.inl ⟨by rfl,?_⟩) ?_ ?_
        rotate_left
        ·intro w'
         go_simp
         with_reducible rfl
        rotate_left
        ·simp only [Act.put,q1,q2,q3,i64_w,i32_w]
         rfl
        refine pure_ (i:=4) (N:=some 21) (v:=?_) (a':=?_) #[Y,Y,Y,Z,Y,Z,Z,Z,Z,Z] rfl rfl (any_of HT_.out (by kernel_rfl)) hh (Or.inl ⟨by rfl,?_⟩) ?_ ?_
        rotate_left
        ·intro w'
         go_simp
         with_reducible rfl
        rotate_left
        ·simp only [Act.put,q1,q2,q3,i64_w,i32_w]
         rfl
        refine pure_ (i:=5) (N:=some 22) (v:=?_) (a':=?_) #[Y,Y,Y,Z,Y,Y,Z,Z,Z,Z] rfl rfl (any_of HT_.out (by kernel_rfl)) hh (Or.inl ⟨by rfl,?_⟩) ?_ ?_
        rotate_left
        ·intro w'
         go_simp
         with_reducible rfl
        rotate_left
        ·simp only [Act.put,q1,q2,q3,i64_w,i32_w]
         rfl
        refine pure_ (i:=6) (N:=some 23) (v:=?_) (a':=?_) #[Y,Y,Y,Z,Y,Y,Y,Z,Z,Z] rfl rfl (any_of HT_.out (by kernel_rfl)) hh (Or.inl ⟨by rfl,?_⟩) ?_ ?_
        rotate_left
        ·intro w'
         go_simp
         with_reducible rfl
        rotate_left
        ·simp only [Act.put,q1,q2,q3,i64_w,i32_w]
         rfl
        refine take_ (i:=3) (N:=some 20) (v:=?_) (a':=?_) #[Y,Y,Y,Y,Y,Y,Y,Z,Z,Z] rfl rfl (take_ofW HT_.out HW_.out (by kernel_rfl)) hh (Or.inl ⟨by rfl,?_⟩) hHeld ?_ ?_
        rotate_left
        ·rintro w' ⟨s0,s1,s2,s3⟩
         go_simp
         with_reducible rfl
        rotate_left
        ·simp only [Act.put,q1,q2,q3,i64_w,i32_w]
         rfl
        refine take_ (i:=7) (N:=some 24) (v:=?_) (a':=?_) #[Y,Y,Y,Y,Y,Y,Y,Y,Z,Z] rfl rfl (take_ofW HT_.out HW_.out (by kernel_rfl)) hh (Or.inl ⟨by rfl,?_⟩) hHeld ?_ ?_
        rotate_left
        ·rintro w' ⟨s0,s1,s2,s3⟩
         go_simp
         with_reducible rfl
        rotate_left
        ·simp only [Act.put,q1,q2,q3,i64_w,i32_w]
         rfl
        refine one_ (i:=8) (N:=some 25) #[Y,Y,Y,Y,Y,Y,Y,Y,Y,Z] rfl rfl (one_of HT_.out (by kernel_rfl)) (by decide) (fun K hK=>?_)
        refine goes_ Try.func57 (by kernel_rfl) rfl #[.agg #[.int .i64 ((rd_T84 l0 x5_1).f0), .string ((rd_T84 l0 x5_1).f1)], .agg #[.int .i64 ((rd_T84 l1 x5_1).f0), .string ((rd_T84 l1 x5_1).f1)]] (by rfl) rfl rfl (by (try simp only [List.map_toArray,List.map_cons,List.map_nil]);first|done|rfl|(simp only [List.length_drop,List.length_take];rfl)) ?_
        with_reducible refine (laws_eqShard.calls ((rd_T84 l0 x5_1).f0) ((rd_T84 l0 x5_1).f1) ((rd_T84 l1 x5_1).f0) ((rd_T84 l1 x5_1).f1) true _ A7.out).mono ?_
        rintro e w10 ⟨rfl,hb⟩
        refine ⟨_,rfl,?_⟩
        have n0_:=am (pu (by repeat (first|(with_reducible first|exact HB.out|apply pa|apply pb|apply pd)|exact HB.out)) hb)
        clear HB
        have HB:=n0_
        clear n0_
        (try clear hb)
        (try clear hb2)
        (try clear hk)
        (try clear hi)
        refine hK.out _ _ ⟨((HB.out.cell (World.block_lt_of_cell? w _ hw381_0)).trans hw381_0),((HB.out.cell (World.block_lt_of_cell? w _ hw381_1)).trans hw381_1),((HB.out.cell (World.block_lt_of_cell? w _ hw382_0)).trans hw382_0),((HB.out.cell (World.block_lt_of_cell? w _ hw382_1)).trans hw382_1)⟩ (fun hHeld=>?_)
        clear hK K
        refine norm_ (a':=?_) ?_ ?_
        rotate_left
        ·show Act.put _ (some 25) _=_
         simp only [Act.put,q1,q2,q3,i64_w,i32_w]
         rfl
        refine pure_ (i:=9) (N:=some 26) (v:=?_) (a':=?_) #[Y,Y,Y,Y,Y,Y,Y,Y,Y,Y] rfl rfl (any_of HT_.out (by kernel_rfl)) hh (Or.inl ⟨by rfl,?_⟩) ?_ ?_
        rotate_left
        ·intro w'
         go_simp
         with_reducible rfl
        rotate_left
        ·simp only [Act.put,q1,q2,q3,i64_w,i32_w]
         rfl
        refine done_ (done_of HT_.out (by kernel_rfl)) ?_
        try go_wp2
        go_roundg k1
        case measure=>have:=HK1.out;omega
        case rel=>exact ⟨(wrap64 (x5_1+1)),(by first|rfl|(simp;done)|(simp [*];done)),H',⟨by have:=HK1.out;omega⟩,⟨by repeat (first|(with_reducible first|exact HB.out|apply pa|apply pb|apply pd)|exact HB.out)⟩⟩
       ·replace c8:=Bool.eq_false_iff.mpr c8
        subst c8
        have H1 : (some false)=some r:=by rw [if_neg (show ¬ (false=true) by decide)] at H;exact H
        clear H
        have H:=H1
        clear H1
        obtain rfl:=Option.some.inj H
        try go_wp2
        have n0_:=am (pd HB.out)
        clear HB
        have HB:=n0_
        clear n0_
        have p381 : 0≤(x5_1 : Int):=of_decide_eq_true (by first|(with_reducible assumption)|assumption)
        have q381 : x5_1 < (l0.length : Int):=of_decide_eq_true (by first|(with_reducible assumption)|assumption)
        obtain ⟨ad381,e381,hx381_0,hx381_1⟩:=at_T84 HR0.out x5_1 p381 q381
        have hw381_1:=hx381_1
        have hw381_0:=hx381_0
        cases e381
        replace hx381_0:=(HB.out.cell (World.block_lt_of_cell? w _ hx381_0)).trans hx381_0
        replace hx381_1:=(HB.out.cell (World.block_lt_of_cell? w _ hx381_1)).trans hx381_1
        replace p381:=eq_true p381
        replace q381:=eq_true q381
        have p382 : 0≤(x5_1 : Int):=of_decide_eq_true (by first|(with_reducible assumption)|assumption)
        have q382 : x5_1 < (l1.length : Int):=of_decide_eq_true (by first|(with_reducible assumption)|assumption)
        obtain ⟨ad382,e382,hx382_0,hx382_1⟩:=at_T84 HR1.out x5_1 p382 q382
        have hw382_1:=hx382_1
        have hw382_0:=hx382_0
        cases e382
        replace hx382_0:=(HB.out.cell (World.block_lt_of_cell? w _ hx382_0)).trans hx382_0
        replace hx382_1:=(HB.out.cell (World.block_lt_of_cell? w _ hx382_1)).trans hx382_1
        replace p382:=eq_true p382
        replace q382:=eq_true q382
        refine start_ (n:=10) (S:=fun w'=>w'.cell? (ad381.add ((x5_1).toNat*2))=some (.int .i64 ((rd_T84 l0 x5_1).f0))∧w'.cell? ⟨(ad381.add ((x5_1).toNat*2)).block,(ad381.add ((x5_1).toNat*2)).off+1,none⟩=some (.string ((rd_T84 l0 x5_1).f1))∧w'.cell? (ad382.add ((x5_1).toNat*2))=some (.int .i64 ((rd_T84 l1 x5_1).f0))∧w'.cell? ⟨(ad382.add ((x5_1).toNat*2)).block,(ad382.add ((x5_1).toNat*2)).off+1,none⟩=some (.string ((rd_T84 l1 x5_1).f1))) (ds:=[]) #[Z,Z,Z,Z,Z,Z,Z,Z,Z,Z] (by kernel_rfl) rfl rfl ⟨((HB.out.cell (World.block_lt_of_cell? w _ hw381_0)).trans hw381_0),((HB.out.cell (World.block_lt_of_cell? w _ hw381_1)).trans hw381_1),((HB.out.cell (World.block_lt_of_cell? w _ hw382_0)).trans hw382_0),((HB.out.cell (World.block_lt_of_cell? w _ hw382_1)).trans hw382_1)⟩ (fun hHeld=>?_);refine with_tabW laws_eqShardS.tab6 laws_eqShardS.bits6 (fun HT_ HW_=>?_)
        generalize wr.drew=w11 at HB hx381_0 hx381_1 hx382_0 hx382_1 hHeld ⊢
        refine pure_ (i:=0) (N:=some 17) (v:=?_) (a':=?_) #[Y,Z,Z,Z,Z,Z,Z,Z,Z,Z] rfl rfl (any_of HT_.out (by kernel_rfl)) hh (Or.inl ⟨by rfl,?_⟩) ?_ ?_
        rotate_left
        ·intro w'
         go_simp
         with_reducible rfl
        rotate_left
        ·simp only [Act.put,q1,q2,q3,i64_w,i32_w]
         rfl
        refine pure_ (i:=1) (N:=some 18) (v:=?_) (a':=?_) #[Y,Y,Z,Z,Z,Z,Z,Z,Z,Z] rfl rfl (any_of HT_.out (by kernel_rfl)) hh (Or.inl ⟨by rfl,?_⟩) ?_ ?_
        rotate_left
        ·intro w'
         go_simp
         with_reducible rfl
        rotate_left
        ·simp only [Act.put,q1,q2,q3,i64_w,i32_w]
         rfl
        refine pure_ (i:=2) (N:=some 19) (v:=?_) (a':=?_) #[Y,Y,Y,Z,Z,Z,Z,Z,Z,Z] rfl rfl (any_of HT_.out (by kernel_rfl)) hh (Or.inl ⟨by rfl,?_⟩) ?_ ?_
        rotate_left
        ·intro w'
         go_simp
         with_reducible rfl
        rotate_left
        ·simp only [Act.put,q1,q2,q3,i64_w,i32_w]
         rfl
        refine pure_ (i:=4) (N:=some 21) (v:=?_) (a':=?_) #[Y,Y,Y,Z,Y,Z,Z,Z,Z,Z] rfl rfl (any_of HT_.out (by kernel_rfl)) hh (Or.inl ⟨by rfl,?_⟩) ?_ ?_
        rotate_left
        ·intro w'
         go_simp
         with_reducible rfl
        rotate_left
        ·simp only [Act.put,q1,q2,q3,i64_w,i32_w]
         rfl
        refine pure_ (i:=5) (N:=some 22) (v:=?_) (a':=?_) #[Y,Y,Y,Z,Y,Y,Z,Z,Z,Z] rfl rfl (any_of HT_.out (by kernel_rfl)) hh (Or.inl ⟨by rfl,?_⟩) ?_ ?_
        rotate_left
        ·intro w'
         go_simp
         with_reducible rfl
        rotate_left
        ·simp only [Act.put,q1,q2,q3,i64_w,i32_w]
         rfl
        refine pure_ (i:=6) (N:=some 23) (v:=?_) (a':=?_) #[Y,Y,Y,Z,Y,Y,Y,Z,Z,Z] rfl rfl (any_of HT_.out (by kernel_rfl)) hh (Or.inl ⟨by rfl,?_⟩) ?_ ?_
        rotate_left
        ·intro w'
         go_simp
         with_reducible rfl
        rotate_left
        ·simp only [Act.put,q1,q2,q3,i64_w,i32_w]
         rfl
        refine take_ (i:=3) (N:=some 20) (v:=?_) (a':=?_) #[Y,Y,Y,Y,Y,Y,Y,Z,Z,Z] rfl rfl (take_ofW HT_.out HW_.out (by kernel_rfl)) hh (Or.inl ⟨by rfl,?_⟩) hHeld ?_ ?_
        rotate_left
        ·rintro w' ⟨s0,s1,s2,s3⟩
         go_simp
         with_reducible rfl
        rotate_left
        ·simp only [Act.put,q1,q2,q3,i64_w,i32_w]
         rfl
        refine take_ (i:=7) (N:=some 24) (v:=?_) (a':=?_) #[Y,Y,Y,Y,Y,Y,Y,Y,Z,Z] rfl rfl (take_ofW HT_.out HW_.out (by kernel_rfl)) hh (Or.inl ⟨by rfl,?_⟩) hHeld ?_ ?_
        rotate_left
        ·rintro w' ⟨s0,s1,s2,s3⟩
         go_simp
         with_reducible rfl
        rotate_left
        ·simp only [Act.put,q1,q2,q3,i64_w,i32_w]
         rfl
        refine one_ (i:=8) (N:=some 25) #[Y,Y,Y,Y,Y,Y,Y,Y,Y,Z] rfl rfl (one_of HT_.out (by kernel_rfl)) (by decide) (fun K hK=>?_)
        refine goes_ Try.func57 (by kernel_rfl) rfl #[.agg #[.int .i64 ((rd_T84 l0 x5_1).f0), .string ((rd_T84 l0 x5_1).f1)], .agg #[.int .i64 ((rd_T84 l1 x5_1).f0), .string ((rd_T84 l1 x5_1).f1)]] (by rfl) rfl rfl (by (try simp only [List.map_toArray,List.map_cons,List.map_nil]);first|done|rfl|(simp only [List.length_drop,List.length_take];rfl)) ?_
        with_reducible refine (laws_eqShard.calls ((rd_T84 l0 x5_1).f0) ((rd_T84 l0 x5_1).f1) ((rd_T84 l1 x5_1).f0) ((rd_T84 l1 x5_1).f1) false _ A7.out).mono ?_
        rintro e w12 ⟨rfl,hb⟩
        refine ⟨_,rfl,?_⟩
        have n0_:=am (pu (by repeat (first|(with_reducible first|exact HB.out|apply pa|apply pb|apply pd)|exact HB.out)) hb)
        clear HB
        have HB:=n0_
        clear n0_
        (try clear hb)
        (try clear hb2)
        (try clear hk)
        (try clear hi)
        refine hK.out _ _ ⟨((HB.out.cell (World.block_lt_of_cell? w _ hw381_0)).trans hw381_0),((HB.out.cell (World.block_lt_of_cell? w _ hw381_1)).trans hw381_1),((HB.out.cell (World.block_lt_of_cell? w _ hw382_0)).trans hw382_0),((HB.out.cell (World.block_lt_of_cell? w _ hw382_1)).trans hw382_1)⟩ (fun hHeld=>?_)
        clear hK K
        refine norm_ (a':=?_) ?_ ?_
        rotate_left
        ·show Act.put _ (some 25) _=_
         simp only [Act.put,q1,q2,q3,i64_w,i32_w]
         rfl
        refine pure_ (i:=9) (N:=some 26) (v:=?_) (a':=?_) #[Y,Y,Y,Y,Y,Y,Y,Y,Y,Y] rfl rfl (any_of HT_.out (by kernel_rfl)) hh (Or.inl ⟨by rfl,?_⟩) ?_ ?_
        rotate_left
        ·intro w'
         go_simp
         with_reducible rfl
        rotate_left
        ·simp only [Act.put,q1,q2,q3,i64_w,i32_w]
         rfl
        refine done_ (done_of HT_.out (by kernel_rfl)) ?_
        try go_wp2
        go_ret
        exact ⟨by first|rfl|(simp [errW_none,errW_some] <;> rfl)|(simp [*,errW_none,errW_some] <;> rfl),by repeat (first|(with_reducible first|exact HB.out|apply pa|apply pb|apply pd)|exact HB.out)⟩
      ·rw [if_neg c6] at H
       exact absurd H (by simp)
     ·rw [if_neg c5] at H
      exact absurd H (by simp)
    ·rw [if_neg c4] at H
     have c4b0 : decide (x5_1 < (l0.length : Int))=false:=decide_eq_false c4
     clear c4
     obtain rfl:=Option.some.inj H
     go_wp2
     go_ret
     exact ⟨by first|rfl|(simp [errW_none,errW_some] <;> rfl)|(simp [*,errW_none,errW_some] <;> rfl),by repeat (first|(with_reducible first|exact HB.out|apply pa|apply pb|apply pd)|exact HB.out)⟩
 ·rw [if_neg c3] at H
  have c3b0 : ((l0.length : Int) == (l1.length : Int))=false:=beq_eq_false_iff_ne.mpr c3
  have c3b1 : ((l0.length : Int) != (l1.length : Int))=true:=bne_iff_ne.mpr c3
  have c3b2 : (l0.length == l1.length)=false:=by first|simpa using c3|(simp at c3 ⊢;omega)
  obtain rfl:=Option.some.inj H
  go_enter Try.func58,Try.ntmps58
  go_wp2
  go_ret
  exact ⟨by first|rfl|(simp [errW_none,errW_some] <;> rfl)|(simp [*,errW_none,errW_some] <;> rfl),by repeat (first|(with_reducible first|exact HB.out|apply pa|apply pb|apply pd)|exact HB.out)⟩

def laws_FnExactRebuildShard.j0 : Nat→List (S160)→List (S84)→Bool→Option (Bool)
 | 0,_,_,_=>none
 | k+1,x0,x12,x47=>if x47=true then (some false) else ((laws_toShardS.f k x0).bind fun t400=>((laws_eqShardS.f k x12 t400).bind fun t403=>(if t403=true then (some true) else (some false))))
def laws_FnExactRebuildShard.f (k : Nat) (l0 : List (S160)) (a1 : Int) (a2 : Int) (a3 : Int) : Option (Bool):=(laws_szShardS.f k l0 1048576).bind fun t384=>(if t384 < 0 then (some true) else ((laws_toShardS.f k l0).bind fun t385=>((spec_RebuildShard.f k t385 a1 a2 a3).bind fun bt388=>((laws_toShardS.f k l0).bind fun t392=>((impl_RebuildShard.f k t392 a1 a2 a3).bind fun bt395=>((laws_eqShard.f bt395.1 bt395.2.1 bt388.1 bt388.2.1).bind fun t399=>(if t399=true then (laws_FnExactRebuildShard.j0 k l0 t392 (bt395.2.2 != bt388.2.2)) else (laws_FnExactRebuildShard.j0 k l0 t392 true))))))))
theorem laws_FnExactRebuildShard.mono_l : ∀ k,(∀ y0 y1 y2,LeO (laws_FnExactRebuildShard.j0 k y0 y1 y2) (laws_FnExactRebuildShard.j0 (k+1) y0 y1 y2))
 | 0=>fun _ _ _ r h=>by simp [laws_FnExactRebuildShard.j0] at h
 | k+1=>by
  have ih0:=laws_FnExactRebuildShard.mono_l k
  ·intro y0 y1 y2
   unfold laws_FnExactRebuildShard.j0
   repeat' first
   | (with_reducible exact ih0 _ _ _)
   | (with_reducible exact impl_RebuildShard.mono _ _ _ _ _)
   | (with_reducible exact laws_eqShardS.mono _ _ _)
   | (with_reducible exact laws_szShardS.mono _ _ _)
   | (with_reducible exact laws_toShardS.mono _ _)
   | (with_reducible exact spec_RebuildShard.mono _ _ _ _ _)
   | (with_reducible exact LeO.refl _)
   | (with_reducible exact LeO.none _)
   | (with_reducible refine LeO.ite ?_ ?_)
   | (with_reducible refine LeO.bind ?_ (fun _=>?_))
   | exact ih0 _ _ _
   | exact impl_RebuildShard.mono _ _ _ _ _
   | exact laws_eqShardS.mono _ _ _
   | exact laws_szShardS.mono _ _ _
   | exact laws_toShardS.mono _ _
   | exact spec_RebuildShard.mono _ _ _ _ _
   | exact LeO.none _
   | refine LeO.ite ?_ ?_
   | refine LeO.bind ?_ (fun _=>?_)
theorem laws_FnExactRebuildShard.mono : ∀ a0 a1 a2 a3 k,LeO (laws_FnExactRebuildShard.f k a0 a1 a2 a3) (laws_FnExactRebuildShard.f (k+1) a0 a1 a2 a3):=by
 intro a0 a1 a2 a3 k
 have ih0:=laws_FnExactRebuildShard.mono_l k
 unfold laws_FnExactRebuildShard.f
 repeat' first
   | (with_reducible exact ih0 _ _ _)
   | (with_reducible exact impl_RebuildShard.mono _ _ _ _ _)
   | (with_reducible exact laws_eqShardS.mono _ _ _)
   | (with_reducible exact laws_szShardS.mono _ _ _)
   | (with_reducible exact laws_toShardS.mono _ _)
   | (with_reducible exact spec_RebuildShard.mono _ _ _ _ _)
   | (with_reducible exact LeO.refl _)
   | (with_reducible exact LeO.none _)
   | (with_reducible refine LeO.ite ?_ ?_)
   | (with_reducible refine LeO.bind ?_ (fun _=>?_))
   | exact ih0 _ _ _
   | exact impl_RebuildShard.mono _ _ _ _ _
   | exact laws_eqShardS.mono _ _ _
   | exact laws_szShardS.mono _ _ _
   | exact laws_toShardS.mono _ _
   | exact spec_RebuildShard.mono _ _ _ _ _
   | exact LeO.none _
   | refine LeO.ite ?_ ?_
   | refine LeO.bind ?_ (fun _=>?_)
set_option maxHeartbeats 8000000 in
set_option maxRecDepth 100000 in
theorem laws_FnExactRebuildShard.calls (k : Nat) (A0 : Option Addr) (c0 : Nat) (l0 : List (S160)) (a1 : Int) (a2 : Int) (a3 : Int) (r : Bool) (w : World) (hr0 : Kd.C k160 w A0 l0.length l0) (hc0 : l0.length≤c0) (h : laws_FnExactRebuildShard.f k l0 a1 a2 a3=some r) :
  Calls Try.prog 9 #[.slice A0 l0.length c0, .int .i64 a1, .int .i64 a2, .int .i64 a3] w fun e w'=>e = .returned (.bool r)∧Below w.heap.size w w':=by
 have hu84:=Try.underlying84
 have HR0:=am hr0
 have HC0:=am hc0
 clear hr0 hc0
 have HB:=am (Below.refl w.heap.size w)
 have H : ((laws_szShardS.f k l0 1048576).bind fun t384=>(if t384 < 0 then (some true) else ((laws_toShardS.f k l0).bind fun t385=>((spec_RebuildShard.f k t385 a1 a2 a3).bind fun bt388=>((laws_toShardS.f k l0).bind fun t392=>((impl_RebuildShard.f k t392 a1 a2 a3).bind fun bt395=>((laws_eqShard.f bt395.1 bt395.2.1 bt388.1 bt388.2.1).bind fun t399=>(if t399=true then (laws_FnExactRebuildShard.j0 k l0 t392 (bt395.2.2 != bt388.2.2)) else (laws_FnExactRebuildShard.j0 k l0 t392 true)))))))))=some r:=h
 clear h
 replace H:=Option.bind_eq_some_iff.mp H
 obtain ⟨t384,A50,H⟩:=H
 replace H : (if t384 < 0 then (some true) else ((laws_toShardS.f k l0).bind fun t385=>((spec_RebuildShard.f k t385 a1 a2 a3).bind fun bt388=>((laws_toShardS.f k l0).bind fun t392=>((impl_RebuildShard.f k t392 a1 a2 a3).bind fun bt395=>((laws_eqShard.f bt395.1 bt395.2.1 bt388.1 bt388.2.1).bind fun t399=>(if t399=true then (laws_FnExactRebuildShard.j0 k l0 t392 (bt395.2.2 != bt388.2.2)) else (laws_FnExactRebuildShard.j0 k l0 t392 true))))))))=some r:=H
 have A5:=am A50
 clear A50
 by_cases c6 : t384 < 0
 ·rw [if_pos c6] at H
  have c6b0 : decide (t384 < 0)=true:=decide_eq_true c6
  clear c6
  obtain rfl:=Option.some.inj H
  go_enter Try.func9,Try.ntmps9
  go_wp2_with (first|((with_reducible refine gate_callee (f:=53) rfl ?_);refine goesL_ (some 17) rfl rfl Try.func53 (by kernel_rfl) rfl #[.slice A0 l0.length c0, .int .i64 1048576] rfl (by (try simp only [List.map_toArray,List.map_cons,List.map_nil]);first|done|rfl|(simp only [List.length_drop,List.length_take];rfl)) ?_;(with_reducible refine (laws_szShardS.calls k _ _ l0 1048576 t384 _ ?side1 ?side2 A5.out).mono ?_);(case side1=>repeat (first|exact HR0.out|(with_reducible refine Kd.C_alloc ?_ _)|(with_reducible refine Kd.C_drewN ?_ _)|(with_reducible refine Kd.C_drew ?_)));(case side2=>exact HC0.out);rintro e w7 ⟨rfl,hb⟩;refine ⟨_,rfl,?_⟩;have n0_:=am (pu (by repeat (first|(with_reducible first|exact HB.out|apply pa|apply pb|apply pd)|exact HB.out)) hb);clear HB;have HB:=n0_;clear n0_;(try clear hb);(try clear hb2);(try clear hk);(try clear hi)))
  go_ret
  exact ⟨by first|rfl|(simp [errW_none,errW_some] <;> rfl)|(simp [*,errW_none,errW_some] <;> rfl),by repeat (first|(with_reducible first|exact HB.out|apply pa|apply pb|apply pd)|exact HB.out)⟩
 ·rw [if_neg c6] at H
  have c6b0 : decide (t384 < 0)=false:=decide_eq_false c6
  clear c6
  replace H:=Option.bind_eq_some_iff.mp H
  obtain ⟨t385,A80,H⟩:=H
  replace H : ((spec_RebuildShard.f k t385 a1 a2 a3).bind fun bt388=>((laws_toShardS.f k l0).bind fun t392=>((impl_RebuildShard.f k t392 a1 a2 a3).bind fun bt395=>((laws_eqShard.f bt395.1 bt395.2.1 bt388.1 bt388.2.1).bind fun t399=>(if t399=true then (laws_FnExactRebuildShard.j0 k l0 t392 (bt395.2.2 != bt388.2.2)) else (laws_FnExactRebuildShard.j0 k l0 t392 true))))))=some r:=H
  have A8:=am A80
  clear A80
  replace H:=Option.bind_eq_some_iff.mp H
  obtain ⟨⟨t388,t389,t390⟩,A90,H⟩:=H
  replace H : ((laws_toShardS.f k l0).bind fun t392=>((impl_RebuildShard.f k t392 a1 a2 a3).bind fun bt395=>((laws_eqShard.f bt395.1 bt395.2.1 t388 t389).bind fun t399=>(if t399=true then (laws_FnExactRebuildShard.j0 k l0 t392 (bt395.2.2 != t390)) else (laws_FnExactRebuildShard.j0 k l0 t392 true)))))=some r:=H
  have A9:=am A90
  clear A90
  replace H:=Option.bind_eq_some_iff.mp H
  obtain ⟨t392,A100,H⟩:=H
  replace H : ((impl_RebuildShard.f k t392 a1 a2 a3).bind fun bt395=>((laws_eqShard.f bt395.1 bt395.2.1 t388 t389).bind fun t399=>(if t399=true then (laws_FnExactRebuildShard.j0 k l0 t392 (bt395.2.2 != t390)) else (laws_FnExactRebuildShard.j0 k l0 t392 true))))=some r:=H
  have A10:=am A100
  clear A100
  replace H:=Option.bind_eq_some_iff.mp H
  obtain ⟨⟨t395,t396,t397⟩,A110,H⟩:=H
  replace H : ((laws_eqShard.f t395 t396 t388 t389).bind fun t399=>(if t399=true then (laws_FnExactRebuildShard.j0 k l0 t392 (t397 != t390)) else (laws_FnExactRebuildShard.j0 k l0 t392 true)))=some r:=H
  have A11:=am A110
  clear A110
  have HC12:=am H
  clear H
  go_enter Try.func9,Try.ntmps9
  go_upto_region 8 with (first|((with_reducible refine gate_callee (f:=53) rfl ?_);refine goesL_ (some 17) rfl rfl Try.func53 (by kernel_rfl) rfl #[.slice A0 l0.length c0, .int .i64 1048576] rfl (by (try simp only [List.map_toArray,List.map_cons,List.map_nil]);first|done|rfl|(simp only [List.length_drop,List.length_take];rfl)) ?_;(with_reducible refine (laws_szShardS.calls k _ _ l0 1048576 t384 _ ?side1 ?side2 A5.out).mono ?_);(case side1=>repeat (first|exact HR0.out|(with_reducible refine Kd.C_alloc ?_ _)|(with_reducible refine Kd.C_drewN ?_ _)|(with_reducible refine Kd.C_drew ?_)));(case side2=>exact HC0.out);rintro e w13 ⟨rfl,hb⟩;refine ⟨_,rfl,?_⟩;have n0_:=am (pu (by repeat (first|(with_reducible first|exact HB.out|apply pa|apply pb|apply pd)|exact HB.out)) hb);clear HB;have HB:=n0_;clear n0_;(try clear hb);(try clear hb2);(try clear hk);(try clear hi))|((with_reducible refine gate_callee (f:=55) rfl ?_);refine goesL_ (some 22) rfl rfl Try.func55 (by kernel_rfl) rfl #[.slice A0 l0.length c0] rfl (by (try simp only [List.map_toArray,List.map_cons,List.map_nil]);first|done|rfl|(simp only [List.length_drop,List.length_take];rfl)) ?_;(with_reducible refine (laws_toShardS.calls k _ _ l0 t385 _ ?side1 ?side2 A8.out).mono ?_);(case side1=>repeat (first|exact (Kd.C_below HR0.out HB.out)|(with_reducible refine Kd.C_alloc ?_ _)|(with_reducible refine Kd.C_drewN ?_ _)|(with_reducible refine Kd.C_drew ?_)));(case side2=>exact HC0.out);rintro e w14 ⟨v386,rfl,ho0,hb⟩;refine ⟨_,rfl,?_⟩;have n0_:=am (Kd.R_lower ho0 (pz (by repeat (first|(with_reducible first|exact HB.out|apply pa|apply pb|apply pd)|exact HB.out))));have n1_:=am (pu (by repeat (first|(with_reducible first|exact HB.out|apply pa|apply pb|apply pd)|exact HB.out)) hb);clear HB;have HO387:=n0_;have HB:=n1_;clear n0_ n1_;(try clear hb);(try clear hb2);(try clear hk);(try clear hi);(try clear ho0);obtain ⟨Ao15,co15,eo15⟩:=Kd.R_slice HO387.out;subst eo15)|((with_reducible refine gate_callee (f:=54) rfl ?_);refine goesL_ (some 26) rfl rfl Try.func54 (by kernel_rfl) rfl #[.slice Ao15 t385.length co15, .int .i64 a1, .int .i64 a2, .int .i64 a3] rfl (by (try simp only [List.map_toArray,List.map_cons,List.map_nil]);first|done|rfl|(simp only [List.length_drop,List.length_take];rfl)) ?_;(with_reducible refine (spec_RebuildShard.calls k _ _ t385 a1 a2 a3 t388 t389 t390 _ ?side1 ?side2 A9.out).mono ?_);(case side1=>repeat (first|exact (Kd.R_reads' HO387.out).2.2|(with_reducible refine Kd.C_alloc ?_ _)|(with_reducible refine Kd.C_drewN ?_ _)|(with_reducible refine Kd.C_drew ?_)));(case side2=>exact (Kd.R_reads' HO387.out).2.1);rintro e w16 ⟨rfl,hb⟩;refine ⟨_,rfl,?_⟩;have n0_:=am (Kd.R_below (by (with_reducible repeat (first|apply Kd.R_alloc|apply Kd.R_drewN|apply Kd.R_drew));exact HO387.out) hb);have n1_:=am (pu (by repeat (first|(with_reducible first|exact HB.out|apply pa|apply pb|apply pd)|exact HB.out)) hb);clear HO387;clear HB;have HO387:=n0_;have HB:=n1_;clear n0_ n1_;(try clear hb);(try clear hb2);(try clear hk);(try clear hi))|((with_reducible refine gate_dst (N:=10) rfl ?_);refine box_event ?hg (N:=10) ?hd (cs:=#[.int .i64 0, .string (⟨#[]⟩ : ByteArray)]) (t:=84) ?hr ?_;(case hd=>rfl);(case hg=>rfl);(case hr=>first|(go_simp;done)|(go_simp;rfl));intro gb391 hg w17 hbox hb;have n0_:=am (Kd.R_below (Kd.R_elderB (by (with_reducible repeat (first|apply Kd.R_alloc|apply Kd.R_drewN|apply Kd.R_drew));exact HO387.out) gb391 (Nat.le_of_eq hg.symm)) hb);have n1_:=am (pu (by repeat (first|(with_reducible first|exact HB.out|apply pa|apply pb|apply pd)|exact HB.out)) hb);have n2_:=am (hbox);have n3_:=am ((by rw [hg];exact (pz (by repeat (first|(with_reducible first|exact HB.out|apply pa|apply pb|apply pd)|exact HB.out))) : w.heap.size≤gb391));have n4_:=am ((by rw [hg];exact (pz (by repeat (first|(with_reducible first|exact HB.out|apply pa|apply pb|apply pd)|exact HB.out))) : w.heap.size≤gb391));clear HO387;clear HB;have HO387:=n0_;have HB:=n1_;have BK391:=n2_;have GW391:=n3_;have GE391:=n4_;clear n0_ n1_ n2_ n3_ n4_;clear hb hbox hg;have hcz18_0 : w17.cell? ⟨gb391,0,none⟩=some (.int .i64 0):=(blk_cell BK391.out 0).trans rfl;have hcz18_1 : w17.cell? ⟨gb391,1,none⟩=some (.string (⟨#[]⟩ : ByteArray)):=(blk_cell BK391.out 1).trans rfl;have hfz18_0:=blk_frozen BK391.out 0;have hfz18_1:=blk_frozen BK391.out 1)|((with_reducible refine gate_callee (f:=55) rfl ?_);refine goesL_ (some 30) rfl rfl Try.func55 (by kernel_rfl) rfl #[.slice A0 l0.length c0] rfl (by (try simp only [List.map_toArray,List.map_cons,List.map_nil]);first|done|rfl|(simp only [List.length_drop,List.length_take];rfl)) ?_;(with_reducible refine (laws_toShardS.calls k _ _ l0 t392 _ ?side1 ?side2 A10.out).mono ?_);(case side1=>exact Kd.C_below HR0.out (by repeat (first|(with_reducible first|exact HB.out|apply pa|apply pb|apply pd|refine pt ?_ GE391.out)|exact HB.out)));(case side2=>exact HC0.out);rintro e w19 ⟨v393,rfl,ho0,hb⟩;refine ⟨_,rfl,?_⟩;have n0_:=am (Kd.R_elder' (by (with_reducible repeat (first|apply Kd.R_alloc|apply Kd.R_drewN|apply Kd.R_drew));exact (Kd.R_mono (Kd.R_far (p:=⟨gb391,1,none⟩) (Kd.R_far (p:=⟨gb391,0,none⟩) (Kd.R_mono HO387.out (fun k_ hk=>(⟨hk,hk.2⟩ : _∧k_ ≠ gb391))) (fun _ hk=>hk.2) (.int .i64 t388)) (fun _ hk=>hk.2) (.string t389)) (fun _ h_=>h_.1))) (Kd.R_base ho0) hb);have n1_:=am (Kd.R_lower (Kd.R_newB (Kd.R_new' ho0 (Kd.R_lt (by (with_reducible repeat (first|apply Kd.R_alloc|apply Kd.R_drewN|apply Kd.R_drew));exact (Kd.R_mono (Kd.R_far (p:=⟨gb391,1,none⟩) (Kd.R_far (p:=⟨gb391,0,none⟩) (Kd.R_mono HO387.out (fun k_ hk=>(⟨hk,hk.2⟩ : _∧k_ ≠ gb391))) (fun _ hk=>hk.2) (.int .i64 t388)) (fun _ hk=>hk.2) (.string t389)) (fun _ h_=>h_.1))))) (g:=gb391) (o:=.cells #[.int .i64 t388, .string t389] 84 (0,0)) (by (with_reducible repeat (first|refine qn ?_ _|refine qd ?_|refine qa ?_ _));refine blk_put (cs:=#[.int .i64 t388, .string (⟨#[]⟩ : ByteArray)]) ?_ 1 _ rfl;(with_reducible repeat (first|refine qn ?_ _|refine qd ?_|refine qa ?_ _));refine blk_put (cs:=#[.int .i64 0, .string (⟨#[]⟩ : ByteArray)]) ?_ 0 _ rfl;(with_reducible repeat (first|refine qn ?_ _|refine qd ?_|refine qa ?_ _));exact BK391.out)) (pz (by repeat (first|(with_reducible first|exact HB.out|apply pa|apply pb|apply pd|refine pt ?_ GE391.out)|exact HB.out))));have n2_:=am (qb (g:=gb391) (o:=.cells #[.int .i64 t388, .string t389] 84 (0,0)) (by (with_reducible repeat (first|refine qn ?_ _|refine qd ?_|refine qa ?_ _));refine blk_put (cs:=#[.int .i64 t388, .string (⟨#[]⟩ : ByteArray)]) ?_ 1 _ rfl;(with_reducible repeat (first|refine qn ?_ _|refine qd ?_|refine qa ?_ _));refine blk_put (cs:=#[.int .i64 0, .string (⟨#[]⟩ : ByteArray)]) ?_ 0 _ rfl;(with_reducible repeat (first|refine qn ?_ _|refine qd ?_|refine qa ?_ _));exact BK391.out) hb);have n3_:=am (pu (by repeat (first|(with_reducible first|exact HB.out|apply pa|apply pb|apply pd|refine pt ?_ GE391.out)|exact HB.out)) hb);clear HO387;clear BK391;clear HB;have HO387:=n0_;have HO394:=n1_;have BK391:=n2_;have HB:=n3_;clear n0_ n1_ n2_ n3_;(try clear hb);(try clear hb2);(try clear hk);(try clear hi);(try clear ho0);obtain ⟨Ao20,co20,eo20⟩:=Kd.R_slice HO394.out;subst eo20)|((with_reducible refine gate_callee (f:=56) rfl ?_);refine goesL_ (some 36) rfl rfl Try.func56 (by kernel_rfl) rfl #[.slice Ao20 t392.length co20, .int .i64 a1, .int .i64 a2, .int .i64 a3] rfl (by (try simp only [List.map_toArray,List.map_cons,List.map_nil]);first|done|rfl|(simp only [List.length_drop,List.length_take];rfl)) ?_;(with_reducible refine (impl_RebuildShard.calls k _ _ t392 a1 a2 a3 t395 t396 t397 _ ?side1 ?side2 A11.out).mono ?_);(case side1=>repeat (first|exact (Kd.R_reads' HO394.out).2.2|(with_reducible refine Kd.C_alloc ?_ _)|(with_reducible refine Kd.C_drewN ?_ _)|(with_reducible refine Kd.C_drew ?_)));(case side2=>exact (Kd.R_reads' HO394.out).2.1);rintro e w21 ⟨rfl,hb⟩;refine ⟨_,rfl,?_⟩;have n0_:=am (Kd.R_below (by (with_reducible repeat (first|apply Kd.R_alloc|apply Kd.R_drewN|apply Kd.R_drew));exact HO387.out) hb);have n1_:=am (Kd.R_below (by (with_reducible repeat (first|apply Kd.R_alloc|apply Kd.R_drewN|apply Kd.R_drew));exact HO394.out) hb);have n2_:=am (qb (g:=gb391) (o:=.cells #[.int .i64 t388, .string t389] 84 (0,0)) (by (with_reducible repeat (first|refine qn ?_ _|refine qd ?_|refine qa ?_ _));exact BK391.out) hb);have n3_:=am (pu (by repeat (first|(with_reducible first|exact HB.out|apply pa|apply pb|apply pd|refine pt ?_ GE391.out)|exact HB.out)) hb);clear HO387;clear HO394;clear BK391;clear HB;have HO387:=n0_;have HO394:=n1_;have BK391:=n2_;have HB:=n3_;clear n0_ n1_ n2_ n3_;(try clear hb);(try clear hb2);(try clear hk);(try clear hi))|((with_reducible refine gate_dst (N:=13) rfl ?_);refine box_event ?hg (N:=13) ?hd (cs:=#[.int .i64 0, .string (⟨#[]⟩ : ByteArray)]) (t:=84) ?hr ?_;(case hd=>rfl);(case hg=>rfl);(case hr=>first|(go_simp;done)|(go_simp;rfl));intro gb398 hg w22 hbox hb;have n0_:=am (Kd.R_below (Kd.R_elderB (by (with_reducible repeat (first|apply Kd.R_alloc|apply Kd.R_drewN|apply Kd.R_drew));exact HO387.out) gb398 (Nat.le_of_eq hg.symm)) hb);have n1_:=am (Kd.R_below (Kd.R_elderB (by (with_reducible repeat (first|apply Kd.R_alloc|apply Kd.R_drewN|apply Kd.R_drew));exact HO394.out) gb398 (Nat.le_of_eq hg.symm)) hb);have n2_:=am (qb (g:=gb391) (o:=.cells #[.int .i64 t388, .string t389] 84 (0,0)) (by (with_reducible repeat (first|refine qn ?_ _|refine qd ?_|refine qa ?_ _));exact BK391.out) hb);have n3_:=am (pu (by repeat (first|(with_reducible first|exact HB.out|apply pa|apply pb|apply pd|refine pt ?_ GE391.out)|exact HB.out)) hb);have n4_:=am (hbox);have n5_:=am ((by rw [hg];exact (pz (by repeat (first|(with_reducible first|exact HB.out|apply pa|apply pb|apply pd|refine pt ?_ GE391.out)|exact HB.out))) : w.heap.size≤gb398));have n6_:=am ((by rw [hg];exact (pz (by repeat (first|(with_reducible first|exact HB.out|apply pa|apply pb|apply pd|refine pt ?_ GE391.out)|exact HB.out))) : w.heap.size≤gb398));have n7_:=am ((by rw [hg];exact Nat.ne_of_lt (blk_lt (g:=gb391) (o:=.cells #[.int .i64 t388, .string t389] 84 (0,0)) (by (with_reducible repeat (first|refine qn ?_ _|refine qd ?_|refine qa ?_ _));exact BK391.out)) : gb391 ≠ gb398));have n8_:=am ((by rw [hg];exact Nat.ne_of_gt (blk_lt (g:=gb391) (o:=.cells #[.int .i64 t388, .string t389] 84 (0,0)) (by (with_reducible repeat (first|refine qn ?_ _|refine qd ?_|refine qa ?_ _));exact BK391.out)) : gb398 ≠ gb391));clear HO387;clear HO394;clear BK391;clear HB;have HO387:=n0_;have HO394:=n1_;have BK391:=n2_;have HB:=n3_;have BK398:=n4_;have GW398:=n5_;have GE398:=n6_;have NB391_398:=n7_;have NB398_391:=n8_;clear n0_ n1_ n2_ n3_ n4_ n5_ n6_ n7_ n8_;clear hb hbox hg;have hnb23:=NB398_391.out;have hnc23:=NB391_398.out;have hcz24_0 : w22.cell? ⟨gb398,0,none⟩=some (.int .i64 0):=(blk_cell BK398.out 0).trans rfl;have hcz24_1 : w22.cell? ⟨gb398,1,none⟩=some (.string (⟨#[]⟩ : ByteArray)):=(blk_cell BK398.out 1).trans rfl;have hfz24_0:=blk_frozen BK398.out 0;have hfz24_1:=blk_frozen BK398.out 1))
  (try simp only [Act.put,q1,q2,q3])
  go_cut [47] (fun v47 wc=>∃ (kq : Nat) (x47_11 : Bool),v47 = .bool x47_11∧Aside0 (laws_FnExactRebuildShard.j0 kq l0 t392 x47_11=some r)∧Aside0 (kq≤k)∧Aside0 (Kd.R k84 84 wc w.heap.size (fun k_=>k_ ≠ gb391∧k_ ≠ gb398) (.slice Ao20 t392.length co20) t392)∧Aside0 (wc.heap[gb391]? = some (.cells #[.int .i64 t388, .string t389] 84 (0,0)))∧Aside0 (wc.heap[gb398]? = some (.cells #[.int .i64 t395, .string t396] 84 (0,0)))∧Aside0 (Below w.heap.size w wc))
  case first =>
   have H:=HC12.out
   clear HC12
   replace H:=Option.bind_eq_some_iff.mp H
   obtain ⟨t399,A250,H⟩:=H
   replace H : (if t399=true then (laws_FnExactRebuildShard.j0 k l0 t392 (t397 != t390)) else (laws_FnExactRebuildShard.j0 k l0 t392 true))=some r:=H
   have A25:=am A250
   clear A250
   by_cases c26 : t399=true
   ·subst c26
    have H1 : (laws_FnExactRebuildShard.j0 k l0 t392 (t397 != t390))=some r:=by rw [if_pos rfl] at H;exact H
    clear H
    have H:=H1
    clear H1
    have H':=am H
    clear H
    have hnb27:=NB398_391.out
    have hnc27:=NB391_398.out
    have hcz28_0 : w22.cell? ⟨gb398,0,none⟩=some (.int .i64 0):=(blk_cell BK398.out 0).trans rfl
    have hcz28_1 : w22.cell? ⟨gb398,1,none⟩=some (.string (⟨#[]⟩ : ByteArray)):=(blk_cell BK398.out 1).trans rfl
    have hfz28_0:=blk_frozen BK398.out 0
    have hfz28_1:=blk_frozen BK398.out 1
    have hcz29_0 : w22.cell? ⟨gb391,0,none⟩=some (.int .i64 t388):=(blk_cell BK391.out 0).trans rfl
    have hcz29_1 : w22.cell? ⟨gb391,1,none⟩=some (.string t389):=(blk_cell BK391.out 1).trans rfl
    have hfz29_0:=blk_frozen BK391.out 0
    have hfz29_1:=blk_frozen BK391.out 1
    go_wp2_with (first|((with_reducible refine gate_callee (f:=57) rfl ?_);refine goesL_ (some 41) rfl rfl Try.func57 (by kernel_rfl) rfl #[.agg #[.int .i64 t395, .string t396], .agg #[.int .i64 t388, .string t389]] rfl (by (try simp only [List.map_toArray,List.map_cons,List.map_nil]);first|done|rfl|(simp only [List.length_drop,List.length_take];rfl)) ?_;(with_reducible refine (laws_eqShard.calls t395 t396 t388 t389 true _ A25.out).mono ?_);rintro e w30 ⟨rfl,hb⟩;refine ⟨_,rfl,?_⟩;have n0_:=am (Kd.R_below (by (with_reducible repeat (first|apply Kd.R_alloc|apply Kd.R_drewN|apply Kd.R_drew));exact (Kd.R_mono (Kd.R_far (p:=⟨gb398,1,none⟩) (Kd.R_far (p:=⟨gb398,0,none⟩) (Kd.R_mono HO387.out (fun k_ hk=>(⟨hk,hk.2⟩ : _∧k_ ≠ gb398))) (fun _ hk=>hk.2) (.int .i64 t395)) (fun _ hk=>hk.2) (.string t396)) (fun _ h_=>h_.1))) hb);have n1_:=am (Kd.R_below (by (with_reducible repeat (first|apply Kd.R_alloc|apply Kd.R_drewN|apply Kd.R_drew));exact (Kd.R_mono (Kd.R_far (p:=⟨gb398,1,none⟩) (Kd.R_far (p:=⟨gb398,0,none⟩) (Kd.R_mono HO394.out (fun k_ hk=>(⟨hk,hk.2⟩ : _∧k_ ≠ gb398))) (fun _ hk=>hk.2) (.int .i64 t395)) (fun _ hk=>hk.2) (.string t396)) (fun _ h_=>h_.1))) hb);have n2_:=am (qb (g:=gb391) (o:=.cells #[.int .i64 t388, .string t389] 84 (0,0)) (by (with_reducible repeat (first|refine qn ?_ _|refine qd ?_|refine qa ?_ _));refine blk_far ?_ NB391_398.out _;(with_reducible repeat (first|refine qn ?_ _|refine qd ?_|refine qa ?_ _));refine blk_far ?_ NB391_398.out _;(with_reducible repeat (first|refine qn ?_ _|refine qd ?_|refine qa ?_ _));exact BK391.out) hb);have n3_:=am (qb (g:=gb398) (o:=.cells #[.int .i64 t395, .string t396] 84 (0,0)) (by (with_reducible repeat (first|refine qn ?_ _|refine qd ?_|refine qa ?_ _));refine blk_put (cs:=#[.int .i64 t395, .string (⟨#[]⟩ : ByteArray)]) ?_ 1 _ rfl;(with_reducible repeat (first|refine qn ?_ _|refine qd ?_|refine qa ?_ _));refine blk_put (cs:=#[.int .i64 0, .string (⟨#[]⟩ : ByteArray)]) ?_ 0 _ rfl;(with_reducible repeat (first|refine qn ?_ _|refine qd ?_|refine qa ?_ _));exact BK398.out) hb);have n4_:=am (pu (by repeat (first|(with_reducible first|exact HB.out|apply pa|apply pb|apply pd|refine pt ?_ GE391.out|refine pt ?_ GE398.out)|exact HB.out)) hb);clear HO387;clear HO394;clear BK391;clear BK398;clear HB;have HO387:=n0_;have HO394:=n1_;have BK391:=n2_;have BK398:=n3_;have HB:=n4_;clear n0_ n1_ n2_ n3_ n4_;(try clear hb);(try clear hb2);(try clear hk);(try clear hi)))
    go_meet
    case rel=>exact ⟨_,((t397 != t390)),(by first|rfl|(simp;done)|(simp [*];done)),H',⟨by first|omega|exact Nat.le_refl _⟩,⟨by (with_reducible repeat (first|apply Kd.R_alloc|apply Kd.R_drewN|apply Kd.R_drew));exact Kd.R_mono HO394.out (fun _ hk=>⟨hk.1.2,hk.2⟩)⟩,⟨by (with_reducible repeat (first|refine qn ?_ _|refine qd ?_|refine qa ?_ _));exact BK391.out⟩,⟨by (with_reducible repeat (first|refine qn ?_ _|refine qd ?_|refine qa ?_ _));exact BK398.out⟩,⟨by repeat (first|(with_reducible first|exact HB.out|apply pa|apply pb|apply pd|refine pt ?_ GE391.out|refine pt ?_ GE398.out)|exact HB.out)⟩⟩
   ·replace c26:=Bool.eq_false_iff.mpr c26
    subst c26
    have H1 : (laws_FnExactRebuildShard.j0 k l0 t392 true)=some r:=by rw [if_neg (show ¬ (false=true) by decide)] at H;exact H
    clear H
    have H:=H1
    clear H1
    have H':=am H
    clear H
    have hnb31:=NB398_391.out
    have hnc31:=NB391_398.out
    have hcz32_0 : w22.cell? ⟨gb398,0,none⟩=some (.int .i64 0):=(blk_cell BK398.out 0).trans rfl
    have hcz32_1 : w22.cell? ⟨gb398,1,none⟩=some (.string (⟨#[]⟩ : ByteArray)):=(blk_cell BK398.out 1).trans rfl
    have hfz32_0:=blk_frozen BK398.out 0
    have hfz32_1:=blk_frozen BK398.out 1
    have hcz33_0 : w22.cell? ⟨gb391,0,none⟩=some (.int .i64 t388):=(blk_cell BK391.out 0).trans rfl
    have hcz33_1 : w22.cell? ⟨gb391,1,none⟩=some (.string t389):=(blk_cell BK391.out 1).trans rfl
    have hfz33_0:=blk_frozen BK391.out 0
    have hfz33_1:=blk_frozen BK391.out 1
    go_wp2_with (first|((with_reducible refine gate_callee (f:=57) rfl ?_);refine goesL_ (some 41) rfl rfl Try.func57 (by kernel_rfl) rfl #[.agg #[.int .i64 t395, .string t396], .agg #[.int .i64 t388, .string t389]] rfl (by (try simp only [List.map_toArray,List.map_cons,List.map_nil]);first|done|rfl|(simp only [List.length_drop,List.length_take];rfl)) ?_;(with_reducible refine (laws_eqShard.calls t395 t396 t388 t389 false _ A25.out).mono ?_);rintro e w34 ⟨rfl,hb⟩;refine ⟨_,rfl,?_⟩;have n0_:=am (Kd.R_below (by (with_reducible repeat (first|apply Kd.R_alloc|apply Kd.R_drewN|apply Kd.R_drew));exact (Kd.R_mono (Kd.R_far (p:=⟨gb398,1,none⟩) (Kd.R_far (p:=⟨gb398,0,none⟩) (Kd.R_mono HO387.out (fun k_ hk=>(⟨hk,hk.2⟩ : _∧k_ ≠ gb398))) (fun _ hk=>hk.2) (.int .i64 t395)) (fun _ hk=>hk.2) (.string t396)) (fun _ h_=>h_.1))) hb);have n1_:=am (Kd.R_below (by (with_reducible repeat (first|apply Kd.R_alloc|apply Kd.R_drewN|apply Kd.R_drew));exact (Kd.R_mono (Kd.R_far (p:=⟨gb398,1,none⟩) (Kd.R_far (p:=⟨gb398,0,none⟩) (Kd.R_mono HO394.out (fun k_ hk=>(⟨hk,hk.2⟩ : _∧k_ ≠ gb398))) (fun _ hk=>hk.2) (.int .i64 t395)) (fun _ hk=>hk.2) (.string t396)) (fun _ h_=>h_.1))) hb);have n2_:=am (qb (g:=gb391) (o:=.cells #[.int .i64 t388, .string t389] 84 (0,0)) (by (with_reducible repeat (first|refine qn ?_ _|refine qd ?_|refine qa ?_ _));refine blk_far ?_ NB391_398.out _;(with_reducible repeat (first|refine qn ?_ _|refine qd ?_|refine qa ?_ _));refine blk_far ?_ NB391_398.out _;(with_reducible repeat (first|refine qn ?_ _|refine qd ?_|refine qa ?_ _));exact BK391.out) hb);have n3_:=am (qb (g:=gb398) (o:=.cells #[.int .i64 t395, .string t396] 84 (0,0)) (by (with_reducible repeat (first|refine qn ?_ _|refine qd ?_|refine qa ?_ _));refine blk_put (cs:=#[.int .i64 t395, .string (⟨#[]⟩ : ByteArray)]) ?_ 1 _ rfl;(with_reducible repeat (first|refine qn ?_ _|refine qd ?_|refine qa ?_ _));refine blk_put (cs:=#[.int .i64 0, .string (⟨#[]⟩ : ByteArray)]) ?_ 0 _ rfl;(with_reducible repeat (first|refine qn ?_ _|refine qd ?_|refine qa ?_ _));exact BK398.out) hb);have n4_:=am (pu (by repeat (first|(with_reducible first|exact HB.out|apply pa|apply pb|apply pd|refine pt ?_ GE391.out|refine pt ?_ GE398.out)|exact HB.out)) hb);clear HO387;clear HO394;clear BK391;clear BK398;clear HB;have HO387:=n0_;have HO394:=n1_;have BK391:=n2_;have BK398:=n3_;have HB:=n4_;clear n0_ n1_ n2_ n3_ n4_;(try clear hb);(try clear hb2);(try clear hk);(try clear hi)))
    go_meet
    case rel=>exact ⟨_,(true),(by first|rfl|(simp;done)|(simp [*];done)),H',⟨by first|omega|exact Nat.le_refl _⟩,⟨by (with_reducible repeat (first|apply Kd.R_alloc|apply Kd.R_drewN|apply Kd.R_drew));exact Kd.R_mono HO394.out (fun _ hk=>⟨hk.1.2,hk.2⟩)⟩,⟨by (with_reducible repeat (first|refine qn ?_ _|refine qd ?_|refine qa ?_ _));exact BK391.out⟩,⟨by (with_reducible repeat (first|refine qn ?_ _|refine qd ?_|refine qa ?_ _));exact BK398.out⟩,⟨by repeat (first|(with_reducible first|exact HB.out|apply pa|apply pb|apply pd|refine pt ?_ GE391.out|refine pt ?_ GE398.out)|exact HB.out)⟩⟩
  case rest =>
   clear HC12
   try clear c2
   try clear p2
   try clear c3
   try clear c5
   try clear c6
   try clear c6b0
   try clear c9
   try clear c23
   try clear c26
   try clear c27
   try clear c31
   try clear hcz18_0
   try clear hcz18_1
   try clear hcz24_0
   try clear hcz24_1
   try clear hcz28_0
   try clear hcz28_1
   try clear hcz29_0
   try clear hcz29_1
   try clear hcz32_0
   try clear hcz32_1
   try clear hcz33_0
   try clear hcz33_1
   try clear hfz18_0
   try clear hfz18_1
   try clear hfz24_0
   try clear hfz24_1
   try clear hfz28_0
   try clear hfz28_1
   try clear hfz29_0
   try clear hfz29_1
   try clear hfz32_0
   try clear hfz32_1
   try clear hfz33_0
   try clear hfz33_1
   obtain ⟨kq,x47_11,rfl,HA,HJ11,HO_12,BK391,BK398,HB⟩:=hcut
   cases kq with
   | zero=>exact absurd HA.out (by simp [laws_FnExactRebuildShard.j0])
   | succ kj11 =>
    have H:=HA.out
    clear HA
    simp only [laws_FnExactRebuildShard.j0] at H
    by_cases c35 : x47_11=true
    ·subst c35
     have H1 : (some false)=some r:=by rw [if_pos rfl] at H;exact H
     clear H
     have H:=H1
     clear H1
     obtain rfl:=Option.some.inj H
     go_wp2
     go_ret
     exact ⟨by first|rfl|(simp [errW_none,errW_some] <;> rfl)|(simp [*,errW_none,errW_some] <;> rfl),by repeat (first|(with_reducible first|exact HB.out|apply pa|apply pb|apply pd|refine pt ?_ GE391.out|refine pt ?_ GE398.out)|exact HB.out)⟩
    ·replace c35:=Bool.eq_false_iff.mpr c35
     subst c35
     have H1 : ((laws_toShardS.f kj11 l0).bind fun t400=>((laws_eqShardS.f kj11 t392 t400).bind fun t403=>(if t403=true then (some true) else (some false))))=some r:=by rw [if_neg (show ¬ (false=true) by decide)] at H;exact H
     clear H
     have H:=H1
     clear H1
     replace H:=Option.bind_eq_some_iff.mp H
     obtain ⟨t400,A360,H⟩:=H
     replace H : ((laws_eqShardS.f kj11 t392 t400).bind fun t403=>(if t403=true then (some true) else (some false)))=some r:=H
     have A36:=am A360
     clear A360
     replace H:=Option.bind_eq_some_iff.mp H
     obtain ⟨t403,A370,H⟩:=H
     replace H : (if t403=true then (some true) else (some false))=some r:=H
     have A37:=am A370
     clear A370
     by_cases c38 : t403=true
     ·subst c38
      have H1 : (some true)=some r:=by rw [if_pos rfl] at H;exact H
      clear H
      have H:=H1
      clear H1
      obtain rfl:=Option.some.inj H
      go_wp2_with (first|((with_reducible refine gate_callee (f:=55) rfl ?_);refine goesL_ (some 50) rfl rfl Try.func55 (by kernel_rfl) rfl #[.slice A0 l0.length c0] rfl (by (try simp only [List.map_toArray,List.map_cons,List.map_nil]);first|done|rfl|(simp only [List.length_drop,List.length_take];rfl)) ?_;(with_reducible refine (laws_toShardS.calls kj11 _ _ l0 t400 _ ?side1 ?side2 A36.out).mono ?_);(case side1=>repeat (first|exact (Kd.C_below HR0.out HB.out)|(with_reducible refine Kd.C_alloc ?_ _)|(with_reducible refine Kd.C_drewN ?_ _)|(with_reducible refine Kd.C_drew ?_)));(case side2=>exact HC0.out);rintro e w39 ⟨v401,rfl,ho0,hb⟩;refine ⟨_,rfl,?_⟩;have n0_:=am (Kd.R_elder' (by (with_reducible repeat (first|apply Kd.R_alloc|apply Kd.R_drewN|apply Kd.R_drew));exact HO_12.out) (Kd.R_base ho0) hb);have n1_:=am (Kd.R_lower (Kd.R_newB (Kd.R_newB (Kd.R_new' ho0 (Kd.R_lt (by (with_reducible repeat (first|apply Kd.R_alloc|apply Kd.R_drewN|apply Kd.R_drew));exact HO_12.out))) (g:=gb391) (o:=.cells #[.int .i64 t388, .string t389] 84 (0,0)) (by (with_reducible repeat (first|refine qn ?_ _|refine qd ?_|refine qa ?_ _));exact BK391.out)) (g:=gb398) (o:=.cells #[.int .i64 t395, .string t396] 84 (0,0)) (by (with_reducible repeat (first|refine qn ?_ _|refine qd ?_|refine qa ?_ _));exact BK398.out)) (pz (by repeat (first|(with_reducible first|exact HB.out|apply pa|apply pb|apply pd|refine pt ?_ GE391.out|refine pt ?_ GE398.out)|exact HB.out))));have n2_:=am (qb (g:=gb391) (o:=.cells #[.int .i64 t388, .string t389] 84 (0,0)) (by (with_reducible repeat (first|refine qn ?_ _|refine qd ?_|refine qa ?_ _));exact BK391.out) hb);have n3_:=am (qb (g:=gb398) (o:=.cells #[.int .i64 t395, .string t396] 84 (0,0)) (by (with_reducible repeat (first|refine qn ?_ _|refine qd ?_|refine qa ?_ _));exact BK398.out) hb);have n4_:=am (pu (by repeat (first|(with_reducible first|exact HB.out|apply pa|apply pb|apply pd|refine pt ?_ GE391.out|refine pt ?_ GE398.out)|exact HB.out)) hb);clear HO_12;clear BK391;clear BK398;clear HB;have HO_12:=n0_;have HO402:=n1_;have BK391:=n2_;have BK398:=n3_;have HB:=n4_;clear n0_ n1_ n2_ n3_ n4_;(try clear hb);(try clear hb2);(try clear hk);(try clear hi);(try clear ho0);obtain ⟨Ao40,co40,eo40⟩:=Kd.R_slice HO402.out;subst eo40)|((with_reducible refine gate_callee (f:=58) rfl ?_);refine goesL_ (some 51) rfl rfl Try.func58 (by kernel_rfl) rfl #[.slice Ao20 t392.length co20, .slice Ao40 t400.length co40] rfl (by (try simp only [List.map_toArray,List.map_cons,List.map_nil]);first|done|rfl|(simp only [List.length_drop,List.length_take];rfl)) ?_;(with_reducible refine (laws_eqShardS.calls kj11 _ _ t392 _ _ t400 true _ ?side1 ?side2 ?side3 ?side4 A37.out).mono ?_);(case side1=>repeat (first|exact (Kd.R_reads' HO_12.out).2.2|(with_reducible refine Kd.C_alloc ?_ _)|(with_reducible refine Kd.C_drewN ?_ _)|(with_reducible refine Kd.C_drew ?_)));(case side2=>exact (Kd.R_reads' HO_12.out).2.1);(case side3=>repeat (first|exact (Kd.R_reads' HO402.out).2.2|(with_reducible refine Kd.C_alloc ?_ _)|(with_reducible refine Kd.C_drewN ?_ _)|(with_reducible refine Kd.C_drew ?_)));(case side4=>exact (Kd.R_reads' HO402.out).2.1);rintro e w41 ⟨rfl,hb⟩;refine ⟨_,rfl,?_⟩;have n0_:=am (Kd.R_below (by (with_reducible repeat (first|apply Kd.R_alloc|apply Kd.R_drewN|apply Kd.R_drew));exact HO_12.out) hb);have n1_:=am (Kd.R_below (by (with_reducible repeat (first|apply Kd.R_alloc|apply Kd.R_drewN|apply Kd.R_drew));exact HO402.out) hb);have n2_:=am (qb (g:=gb391) (o:=.cells #[.int .i64 t388, .string t389] 84 (0,0)) (by (with_reducible repeat (first|refine qn ?_ _|refine qd ?_|refine qa ?_ _));exact BK391.out) hb);have n3_:=am (qb (g:=gb398) (o:=.cells #[.int .i64 t395, .string t396] 84 (0,0)) (by (with_reducible repeat (first|refine qn ?_ _|refine qd ?_|refine qa ?_ _));exact BK398.out) hb);have n4_:=am (pu (by repeat (first|(with_reducible first|exact HB.out|apply pa|apply pb|apply pd|refine pt ?_ GE391.out|refine pt ?_ GE398.out)|exact HB.out)) hb);clear HO_12;clear HO402;clear BK391;clear BK398;clear HB;have HO_12:=n0_;have HO402:=n1_;have BK391:=n2_;have BK398:=n3_;have HB:=n4_;clear n0_ n1_ n2_ n3_ n4_;(try clear hb);(try clear hb2);(try clear hk);(try clear hi)))
      go_ret
      exact ⟨by first|rfl|(simp [errW_none,errW_some] <;> rfl)|(simp [*,errW_none,errW_some] <;> rfl),by repeat (first|(with_reducible first|exact HB.out|apply pa|apply pb|apply pd|refine pt ?_ GE391.out|refine pt ?_ GE398.out)|exact HB.out)⟩
     ·replace c38:=Bool.eq_false_iff.mpr c38
      subst c38
      have H1 : (some false)=some r:=by rw [if_neg (show ¬ (false=true) by decide)] at H;exact H
      clear H
      have H:=H1
      clear H1
      obtain rfl:=Option.some.inj H
      go_wp2_with (first|((with_reducible refine gate_callee (f:=55) rfl ?_);refine goesL_ (some 50) rfl rfl Try.func55 (by kernel_rfl) rfl #[.slice A0 l0.length c0] rfl (by (try simp only [List.map_toArray,List.map_cons,List.map_nil]);first|done|rfl|(simp only [List.length_drop,List.length_take];rfl)) ?_;(with_reducible refine (laws_toShardS.calls kj11 _ _ l0 t400 _ ?side1 ?side2 A36.out).mono ?_);(case side1=>repeat (first|exact (Kd.C_below HR0.out HB.out)|(with_reducible refine Kd.C_alloc ?_ _)|(with_reducible refine Kd.C_drewN ?_ _)|(with_reducible refine Kd.C_drew ?_)));(case side2=>exact HC0.out);rintro e w42 ⟨v401,rfl,ho0,hb⟩;refine ⟨_,rfl,?_⟩;have n0_:=am (Kd.R_elder' (by (with_reducible repeat (first|apply Kd.R_alloc|apply Kd.R_drewN|apply Kd.R_drew));exact HO_12.out) (Kd.R_base ho0) hb);have n1_:=am (Kd.R_lower (Kd.R_newB (Kd.R_newB (Kd.R_new' ho0 (Kd.R_lt (by (with_reducible repeat (first|apply Kd.R_alloc|apply Kd.R_drewN|apply Kd.R_drew));exact HO_12.out))) (g:=gb391) (o:=.cells #[.int .i64 t388, .string t389] 84 (0,0)) (by (with_reducible repeat (first|refine qn ?_ _|refine qd ?_|refine qa ?_ _));exact BK391.out)) (g:=gb398) (o:=.cells #[.int .i64 t395, .string t396] 84 (0,0)) (by (with_reducible repeat (first|refine qn ?_ _|refine qd ?_|refine qa ?_ _));exact BK398.out)) (pz (by repeat (first|(with_reducible first|exact HB.out|apply pa|apply pb|apply pd|refine pt ?_ GE391.out|refine pt ?_ GE398.out)|exact HB.out))));have n2_:=am (qb (g:=gb391) (o:=.cells #[.int .i64 t388, .string t389] 84 (0,0)) (by (with_reducible repeat (first|refine qn ?_ _|refine qd ?_|refine qa ?_ _));exact BK391.out) hb);have n3_:=am (qb (g:=gb398) (o:=.cells #[.int .i64 t395, .string t396] 84 (0,0)) (by (with_reducible repeat (first|refine qn ?_ _|refine qd ?_|refine qa ?_ _));exact BK398.out) hb);have n4_:=am (pu (by repeat (first|(with_reducible first|exact HB.out|apply pa|apply pb|apply pd|refine pt ?_ GE391.out|refine pt ?_ GE398.out)|exact HB.out)) hb);clear HO_12;clear BK391;clear BK398;clear HB;have HO_12:=n0_;have HO402:=n1_;have BK391:=n2_;have BK398:=n3_;have HB:=n4_;clear n0_ n1_ n2_ n3_ n4_;(try clear hb);(try clear hb2);(try clear hk);(try clear hi);(try clear ho0);obtain ⟨Ao43,co43,eo43⟩:=Kd.R_slice HO402.out;subst eo43)|((with_reducible refine gate_callee (f:=58) rfl ?_);refine goesL_ (some 51) rfl rfl Try.func58 (by kernel_rfl) rfl #[.slice Ao20 t392.length co20, .slice Ao43 t400.length co43] rfl (by (try simp only [List.map_toArray,List.map_cons,List.map_nil]);first|done|rfl|(simp only [List.length_drop,List.length_take];rfl)) ?_;(with_reducible refine (laws_eqShardS.calls kj11 _ _ t392 _ _ t400 false _ ?side1 ?side2 ?side3 ?side4 A37.out).mono ?_);(case side1=>repeat (first|exact (Kd.R_reads' HO_12.out).2.2|(with_reducible refine Kd.C_alloc ?_ _)|(with_reducible refine Kd.C_drewN ?_ _)|(with_reducible refine Kd.C_drew ?_)));(case side2=>exact (Kd.R_reads' HO_12.out).2.1);(case side3=>repeat (first|exact (Kd.R_reads' HO402.out).2.2|(with_reducible refine Kd.C_alloc ?_ _)|(with_reducible refine Kd.C_drewN ?_ _)|(with_reducible refine Kd.C_drew ?_)));(case side4=>exact (Kd.R_reads' HO402.out).2.1);rintro e w44 ⟨rfl,hb⟩;refine ⟨_,rfl,?_⟩;have n0_:=am (Kd.R_below (by (with_reducible repeat (first|apply Kd.R_alloc|apply Kd.R_drewN|apply Kd.R_drew));exact HO_12.out) hb);have n1_:=am (Kd.R_below (by (with_reducible repeat (first|apply Kd.R_alloc|apply Kd.R_drewN|apply Kd.R_drew));exact HO402.out) hb);have n2_:=am (qb (g:=gb391) (o:=.cells #[.int .i64 t388, .string t389] 84 (0,0)) (by (with_reducible repeat (first|refine qn ?_ _|refine qd ?_|refine qa ?_ _));exact BK391.out) hb);have n3_:=am (qb (g:=gb398) (o:=.cells #[.int .i64 t395, .string t396] 84 (0,0)) (by (with_reducible repeat (first|refine qn ?_ _|refine qd ?_|refine qa ?_ _));exact BK398.out) hb);have n4_:=am (pu (by repeat (first|(with_reducible first|exact HB.out|apply pa|apply pb|apply pd|refine pt ?_ GE391.out|refine pt ?_ GE398.out)|exact HB.out)) hb);clear HO_12;clear HO402;clear BK391;clear BK398;clear HB;have HO_12:=n0_;have HO402:=n1_;have BK391:=n2_;have BK398:=n3_;have HB:=n4_;clear n0_ n1_ n2_ n3_ n4_;(try clear hb);(try clear hb2);(try clear hk);(try clear hi)))
      go_ret
      exact ⟨by first|rfl|(simp [errW_none,errW_some] <;> rfl)|(simp [*,errW_none,errW_some] <;> rfl),by repeat (first|(with_reducible first|exact HB.out|apply pa|apply pb|apply pd|refine pt ?_ GE391.out|refine pt ?_ GE398.out)|exact HB.out)⟩

end Go.Proofs.Ytajikfnpcobnpaa.PFnExactRebuildShard
-- HALVED
-- SQUEEZED
-- SQUEEZED2
