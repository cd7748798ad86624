-- Laid by a program of this session.
import Derived.Test.YteflgifmdojahaaPFnExactMendLocalx0
import Derived.Test.YteflgifmdojahaaPFnExactMendLocalx5
namespace Go.Proofs.Yteflgifmdojahaa.PFnExactMendLocal
open Go.RowKit Go.Proofs.YteflgifmdojahaaW.PrintWords Go.Proofs.YteflgifmdojahaaW.PrintLast Go.Proofs.YteflgifmdojahaaW.PrintMore
attribute [local go_sem] max2_int min2_int max_two min_two max_three min_three max_four min_four   -- for this text's walks alone
set_option linter.unusedVariables false
set_option maxHeartbeats 8000000
set_option maxRecDepth 100000
set_option linter.unusedSimpArgs false

def impl_HelpersOf.l0:Nat→Int→Int→List Int→Int→Int→Int→Int→Int→Option (List Int × Bool)
 | 0,_,_,_,_,_,_,_,_=>none
 | k+1,x1,x6,x8,x25,x26,x160000,x160001,x160002=>if x26 < x25 then ((impl_GroupOf.f k x160000 x160001 x160002 x26).bind fun bt166=>(if bt166.1=x6 then (if x26=x1 then (impl_HelpersOf.l0 k x1 x6 x8 x25 (wrap64 (x26+1)) x160000 x160001 x160002) else (if x8.length < 17592186044416 then (impl_HelpersOf.l0 k x1 x6 (x8 ++ [x26]) x25 (wrap64 (x26+1)) x160000 x160001 x160002) else (none))) else (impl_HelpersOf.l0 k x1 x6 x8 x25 (wrap64 (x26+1)) x160000 x160001 x160002))) else (some (x8,true))
def impl_HelpersOf.f (k:Nat) (a0_0:Int) (a0_1:Int) (a0_2:Int) (a1:Int):Option (List Int × Bool):=(impl_GroupOf.f k a0_0 a0_1 a0_2 a1).bind fun bt160=>(if bt160.2=true then ((impl_Local_data.f a0_0 a0_1 a0_2).bind fun t165=>(impl_HelpersOf.l0 k a1 bt160.1 (([]:List Int)) (wrap64 (t165+a0_0)) 0 a0_0 a0_1 a0_2)) else (some (([]:List Int),false)))
theorem impl_HelpersOf.mono_l:∀ k,(∀ y0 y1 y2 y3 y4 y5 y6 y7,LeO (impl_HelpersOf.l0 k y0 y1 y2 y3 y4 y5 y6 y7) (impl_HelpersOf.l0 (k+1) y0 y1 y2 y3 y4 y5 y6 y7))
 | 0=>fun _ _ _ _ _ _ _ _ r h=>by simp [impl_HelpersOf.l0] at h
 | k+1=>by
  have ih0:=impl_HelpersOf.mono_l k
  intro y0 y1 y2 y3 y4 y5 y6 y7
  unfold impl_HelpersOf.l0
  repeat' first
  | (with_reducible exact ih0 _ _ _ _ _ _ _ _)
  | (with_reducible exact impl_GroupOf.mono _ _ _ _ _)
  |(with_reducible exact LeO.refl _)|(with_reducible exact LeO.none _)|(with_reducible refine LeO.ite ?_ ?_)|(with_reducible refine LeO.bind ?_ (fun _=>?_))|exact ih0 _ _ _ _ _ _ _ _|exact impl_GroupOf.mono _ _ _ _ _|exact LeO.none _|refine LeO.ite ?_ ?_|refine LeO.bind ?_ (fun _=>?_)
theorem impl_HelpersOf.mono:∀ a0 a1 a2 a3 k,LeO (impl_HelpersOf.f k a0 a1 a2 a3) (impl_HelpersOf.f (k+1) a0 a1 a2 a3):=by
 intro a0 a1 a2 a3 k
 have ih0:=impl_HelpersOf.mono_l k
 unfold impl_HelpersOf.f
 repeat' first
   | (with_reducible exact ih0 _ _ _ _ _ _ _ _)
   | (with_reducible exact impl_GroupOf.mono _ _ _ _ _)
   |(with_reducible exact LeO.refl _)|(with_reducible exact LeO.none _)|(with_reducible refine LeO.ite ?_ ?_)|(with_reducible refine LeO.bind ?_ (fun _=>?_))|exact ih0 _ _ _ _ _ _ _ _|exact impl_GroupOf.mono _ _ _ _ _|exact LeO.none _|refine LeO.ite ?_ ?_|refine LeO.bind ?_ (fun _=>?_)
theorem impl_HelpersOf.calls (k:Nat) (a0_0:Int) (a0_1:Int) (a0_2:Int) (a1:Int) (r1:List Int) (r2:Bool) (w:World) (h:impl_HelpersOf.f k a0_0 a0_1 a0_2 a1=some (r1,r2)) :
  Calls Try.prog 75 #[.agg #[.int .i64 a0_0, .int .i64 a0_1, .int .i64 a0_2], .int .i64 a1] w fun e w'=>∃ v0_:Value,e = .returned (.tuple #[v0_, .bool r2])∧Kd.R (Kd.int .i64) 3 w' w.heap.size (fun _=>True) v0_ r1∧Below w.heap.size w w':=by
 have hu51:=Try.underlying51
 have HB:=am (Below.refl w.heap.size w)
 have H:((impl_GroupOf.f k a0_0 a0_1 a0_2 a1).bind fun bt160=>(if bt160.2=true then ((impl_Local_data.f a0_0 a0_1 a0_2).bind fun t165=>(impl_HelpersOf.l0 k a1 bt160.1 (([]:List Int)) (wrap64 (t165+a0_0)) 0 a0_0 a0_1 a0_2)) else (some (([]:List Int),false))))=some (r1,r2):=h
 clear h
 replace H:=Option.bind_eq_some_iff.mp H
 obtain ⟨⟨t160,t161⟩,A30,H⟩:=H
 replace H:(if t161=true then ((impl_Local_data.f a0_0 a0_1 a0_2).bind fun t165=>(impl_HelpersOf.l0 k a1 t160 (([]:List Int)) (wrap64 (t165+a0_0)) 0 a0_0 a0_1 a0_2)) else (some (([]:List Int),false)))=some (r1,r2):=H
 have A3:=am A30
 clear A30
 by_cases c4:t161=true
 ·subst c4
  have H1:((impl_Local_data.f a0_0 a0_1 a0_2).bind fun t165=>(impl_HelpersOf.l0 k a1 t160 (([]:List Int)) (wrap64 (t165+a0_0)) 0 a0_0 a0_1 a0_2))=some (r1,r2):=by rw [if_pos rfl] at H;exact H
  clear H
  have H:=H1
  clear H1
  obtain ⟨y162,hy162⟩:∃ y_:List Int,y_=(([]:List Int)):=⟨_,rfl⟩
  replace H:((impl_Local_data.f a0_0 a0_1 a0_2).bind fun t165=>(impl_HelpersOf.l0 k a1 t160 y162 (wrap64 (t165+a0_0)) 0 a0_0 a0_1 a0_2))=some (r1,r2):=by first|(rw [hy162];with_reducible exact H)|(have H2_:=(Option.bind_some _ _).symm.trans H;rw [hy162];with_reducible exact H2_)|(have H2_:=(Option.bind_some _ _).symm.trans H;with_reducible exact H2_)|with_reducible exact H|(rw [hy162];exact H)|exact H
  have Ny162:=am hy162
  clear hy162
  replace H:=Option.bind_eq_some_iff.mp H
  obtain ⟨t165,A50,H⟩:=H
  replace H:(impl_HelpersOf.l0 k a1 t160 y162 (wrap64 (t165+a0_0)) 0 a0_0 a0_1 a0_2)=some (r1,r2):=H
  have A5:=am A50
  clear A50
  have H':=am H
  clear H
  go_enter Try.func75,Try.ntmps75
  try go_wp2_with (first|((with_reducible refine gate_dst (N:=2) rfl ?_);refine box_event ?hg (N:=2) ?hd (cs:=#[.int .i64 a0_0, .int .i64 a0_1, .int .i64 a0_2]) (t:=51) ?hr ?_;(case hd=>rfl);(case hg=>rfl);(case hr=>first|(go_simp;done)|(go_simp;rfl));intro gb159 hg w6 hbox hb;have n0_:=am (pu d0 hb);have n1_:=am (hbox);have n2_:=am ((by rw [hg];exact (pz d0):w.heap.size≤gb159));have n3_:=n2_;clear HB;have HB:=n0_;have BK159:=n1_;have GW159:=n2_;have GE159:=n3_;clear n0_ n1_ n2_ n3_;clear hb hbox hg;have hcz7_0:w6.cell? ⟨gb159,0,none⟩=some (.int .i64 a0_0):=(blk_cell BK159.out 0).trans rfl;have hcz7_1:w6.cell? ⟨gb159,1,none⟩=some (.int .i64 a0_1):=(blk_cell BK159.out 1).trans rfl;have hcz7_2:w6.cell? ⟨gb159,2,none⟩=some (.int .i64 a0_2):=(blk_cell BK159.out 2).trans rfl;have hfz7_0:=blk_frozen BK159.out 0;have hfz7_1:=blk_frozen BK159.out 1;have hfz7_2:=blk_frozen BK159.out 2)|((with_reducible refine gate_callee (f:=131) rfl ?_);refine goesL_ (some 15) rfl rfl Try.func131 d5 rfl #[.agg #[.int .i64 a0_0, .int .i64 a0_1, .int .i64 a0_2], .int .i64 a1] rfl d1 ?_;(with_reducible refine (impl_GroupOf.calls k a0_0 a0_1 a0_2 a1 t160 true _ A3.out).mono ?_);rintro e w8 ⟨rfl,hb⟩;refine ⟨_,rfl,?_⟩;have n0_:=am (qb (g:=gb159) (o:=.cells #[.int .i64 a0_0, .int .i64 a0_1, .int .i64 a0_2] 51 (0,0)) (by (with_reducible repeat (first|refine qn ?_ _|refine qd ?_|refine qa ?_ _));exact BK159.out) hb);have n1_:=am (pu (by repeat (first|(with_reducible first|exact HB.out|apply pa|apply pb|apply pd|refine pt ?_ GE159.out)|exact HB.out)) hb);clear BK159;clear HB;have BK159:=n0_;have HB:=n1_;clear n0_ n1_;(try clear hb);(try clear hb2);(try clear hk);(try clear hi))|((with_reducible refine gate_dst (N:=20) rfl ?_);refine Kd.R_lit (Kd.int .i64) _ 3 ?hg (N:=20) ?hd (xs:=([]:List Int)) (inner:=[]) (ok:=fun _=>True) (okp:=fun _=>True) ?hr ?hp (fun _ hk=>hk) trivial (Below.refl _ _) (Nat.le_refl _) d24 ?_;(case hd=>rfl);(case hg=>rfl);(case hr=>first|(go_simp;done)|(go_simp;rfl));(case hp=>exact (Reps.none _ _));intro v163 w9 ho10 hb hg_ hnew_;clear hg_ hnew_;(first|rw [← Ny162.out] at ho10|(simp only [Int.reduceToNat] at ho10;rw [← Ny162.out] at ho10));have n0_:=am (Kd.R_lower ho10 (pz (by repeat (first|(with_reducible first|exact HB.out|apply pa|apply pb|apply pd|refine pt ?_ GE159.out)|exact HB.out))));have n1_:=am (qb (g:=gb159) (o:=.cells #[.int .i64 a0_0, .int .i64 a0_1, .int .i64 a0_2] 51 (0,0)) (by (with_reducible repeat (first|refine qn ?_ _|refine qd ?_|refine qa ?_ _));exact BK159.out) hb);have n2_:=am (pu (by repeat (first|(with_reducible first|exact HB.out|apply pa|apply pb|apply pd|refine pt ?_ GE159.out)|exact HB.out)) hb);clear BK159;clear HB;have HO164:=n0_;have BK159:=n1_;have HB:=n2_;clear n0_ n1_ n2_;clear hb ho10))
  have n0_:=am (Kd.R_drew HO164.out)
  have n1_:=am (qd BK159.out)
  have n2_:=am (pd HB.out)
  clear HO164
  clear BK159
  clear HB
  have HO164:=n0_
  have BK159:=n1_
  have HB:=n2_
  clear n0_ n1_ n2_
  refine start_ (n:=6) (S:=fun w'=>w'.cell? ⟨gb159,0,none⟩=some (.int .i64 a0_0)∧w'.cell? ⟨gb159,1,none⟩=some (.int .i64 a0_1)∧w'.cell? ⟨gb159,2,none⟩=some (.int .i64 a0_2)) (ds:=[]) #[Z,Z,Z,Z,Z,Z] d5 rfl rfl ⟨(blk_cell BK159.out 0).trans rfl,(blk_cell BK159.out 1).trans rfl,(blk_cell BK159.out 2).trans rfl⟩ (fun hHeld=>?_)
  generalize w9.drew=w11 at HO164 BK159 HB hHeld ⊢
  refine pure_ (i:=2) (N:=some 23) (v:=?_) (a':=?_) #[Z,Z,Y,Z,Z,Z] rfl rfl d5 hh (Or.inl ⟨d28,?_⟩) ?_ ?_
  rotate_left
  ·intro w'
   go_simp
   with_reducible rfl
  rotate_left
  ·simp only [Act.put,q1,q2,q3,i64_w,i32_w]
   rfl
  refine pure_ (i:=5) (N:=some 26) (v:=?_) (a':=?_) #[Z,Z,Y,Z,Z,Y] rfl rfl d5 hh (Or.inl ⟨d28,?_⟩) ?_ ?_
  rotate_left
  ·intro w'
   go_simp
   with_reducible rfl
  rotate_left
  ·simp only [Act.put,q1,q2,q3,i64_w,i32_w]
   rfl
  refine take_ (i:=0) (N:=some 21) (v:=?_) (a':=?_) #[Y,Z,Y,Z,Z,Y] rfl rfl d5 hh (Or.inl ⟨d28,?_⟩) hHeld ?_ ?_
  rotate_left
  ·rintro w' ⟨s0,s1,s2⟩
   go_simp
   with_reducible rfl
  rotate_left
  ·simp only [Act.put,q1,q2,q3,i64_w,i32_w]
   rfl
  refine take_ (i:=3) (N:=some 24) (v:=?_) (a':=?_) #[Y,Z,Y,Y,Z,Y] rfl rfl d5 hh (Or.inl ⟨d28,?_⟩) hHeld ?_ ?_
  rotate_left
  ·rintro w' ⟨s0,s1,s2⟩
   go_simp
   with_reducible rfl
  rotate_left
  ·simp only [Act.put,q1,q2,q3,i64_w,i32_w]
   rfl
  refine one_ (i:=1) (N:=some 22) #[Y,Y,Y,Y,Z,Y] rfl rfl d5 d12 (fun K hK=>?_)
  refine goes_ Try.func132 d5 rfl #[.agg #[.int .i64 a0_0, .int .i64 a0_1, .int .i64 a0_2]] d28 rfl rfl d1 ?_
  with_reducible refine (impl_Local_data.calls a0_0 a0_1 a0_2 t165 _ A5.out).mono ?_
  rintro e w12 ⟨rfl,hb⟩
  refine ⟨_,rfl,?_⟩
  have n0_:=am (Kd.R_below (by (with_reducible repeat (first|apply Kd.R_alloc|apply Kd.R_drewN|apply Kd.R_drew));exact HO164.out) hb)
  have n1_:=am (qb (g:=gb159) (o:=.cells #[.int .i64 a0_0, .int .i64 a0_1, .int .i64 a0_2] 51 (0,0)) (by (with_reducible repeat (first|refine qn ?_ _|refine qd ?_|refine qa ?_ _));exact BK159.out) hb)
  have n2_:=am (pu (by repeat (first|(with_reducible first|exact HB.out|apply pa|apply pb|apply pd|refine pt ?_ GE159.out)|exact HB.out)) hb)
  clear HO164
  clear BK159
  clear HB
  have HO164:=n0_
  have BK159:=n1_
  have HB:=n2_
  clear n0_ n1_ n2_
  (try clear hb)
  (try clear hb2)
  (try clear hk)
  (try clear hi)
  refine hK.out _ _ ⟨(blk_cell BK159.out 0).trans rfl,(blk_cell BK159.out 1).trans rfl,(blk_cell BK159.out 2).trans rfl⟩ (fun hHeld=>?_)
  clear hK K
  refine norm_ (a':=?_) ?_ ?_
  rotate_left
  ·show Act.put _ (some 22) _=_
   simp only [Act.put,q1,q2,q3,i64_w,i32_w]
   rfl
  refine pure_ (i:=4) (N:=some 25) (v:=?_) (a':=?_) #[Y,Y,Y,Y,Y,Y] rfl rfl d5 hh (Or.inl ⟨d28,?_⟩) ?_ ?_
  rotate_left
  ·intro w'
   go_simp
   with_reducible rfl
  rotate_left
  ·simp only [Act.put,q1,q2,q3,i64_w,i32_w]
   rfl
  refine done_ d5 ?_
  try go_wp2
  go_loopg [8,26] k (fun kq v8 v26 w'=>∃ (x8_1:List Int) (x26_1:Int),v26 = .int .i64 x26_1∧Aside0 (impl_HelpersOf.l0 kq a1 t160 x8_1 (wrap64 (t165+a0_0)) x26_1 a0_0 a0_1 a0_2=some (r1,r2))∧Aside0 (kq≤k)∧Aside0 (Kd.R (Kd.int .i64) 3 w' w.heap.size (fun _=>True) v8 x8_1)∧Aside0 (w'.heap[gb159]? = some (.cells #[.int .i64 a0_0, .int .i64 a0_1, .int .i64 a0_2] 51 (0,0)))∧Aside0 (Below w.heap.size w w'))
  case atStart=>exact ⟨(y162),(0),d4,H',⟨Nat.le_refl _⟩,⟨by (with_reducible repeat (first|apply Kd.R_alloc|apply Kd.R_drewN|apply Kd.R_drew));exact HO164.out⟩,⟨by (with_reducible repeat (first|refine qn ?_ _|refine qd ?_|refine qa ?_ _));exact BK159.out⟩,⟨by repeat (first|(with_reducible first|exact HB.out|apply pa|apply pb|apply pd|refine pt ?_ GE159.out)|exact HB.out)⟩⟩
  case round =>
   clear H'
   try clear c1
   try clear p2
   try clear c4
   try clear p6
   try clear c7
   try clear hcz7_0
   try clear hcz7_1
   try clear hcz7_2
   try clear hfz7_0
   try clear hfz7_1
   try clear hfz7_2
   obtain ⟨x8_1,x26_1,rfl,HA,HK1,HO_8,BK159,HB⟩:=hrel
   cases gk with
   | zero=>exact absurd HA.out (by simp [impl_HelpersOf.l0])
   | succ k1 =>
    have H:=HA.out
    clear HA
    simp only [impl_HelpersOf.l0] at H
    by_cases c13:x26_1 < (wrap64 (t165+a0_0))
    ·rw [if_pos c13] at H
     have c13b0:decide (x26_1 < (wrap64 (t165+a0_0)))=true:=decide_eq_true c13
     clear c13
     replace H:=Option.bind_eq_some_iff.mp H
     obtain ⟨⟨t166,t167⟩,A140,H⟩:=H
     replace H:(if t166=t160 then (if x26_1=a1 then (impl_HelpersOf.l0 k1 a1 t160 x8_1 (wrap64 (t165+a0_0)) (wrap64 (x26_1+1)) a0_0 a0_1 a0_2) else (if x8_1.length < 17592186044416 then (impl_HelpersOf.l0 k1 a1 t160 (x8_1 ++ [x26_1]) (wrap64 (t165+a0_0)) (wrap64 (x26_1+1)) a0_0 a0_1 a0_2) else (none))) else (impl_HelpersOf.l0 k1 a1 t160 x8_1 (wrap64 (t165+a0_0)) (wrap64 (x26_1+1)) a0_0 a0_1 a0_2))=some (r1,r2):=H
     have A14:=am A140
     clear A140
     by_cases c15:t166=t160
     ·rw [if_pos c15] at H
      have c15b0:(t166 == t160)=true:=beq_iff_eq.mpr c15
      have c15b1:(t166 != t160)=false:=bne_eq_false_iff_eq.mpr c15
      clear c15
      by_cases c16:x26_1=a1
      ·rw [if_pos c16] at H
       have c16b0:(x26_1 == a1)=true:=beq_iff_eq.mpr c16
       have c16b1:(x26_1 != a1)=false:=bne_eq_false_iff_eq.mpr c16
       clear c16
       have H':=am H
       clear H
       have hcz17_0:wr.cell? ⟨gb159,0,none⟩=some (.int .i64 a0_0):=(blk_cell BK159.out 0).trans rfl
       have hcz17_1:wr.cell? ⟨gb159,1,none⟩=some (.int .i64 a0_1):=(blk_cell BK159.out 1).trans rfl
       have hcz17_2:wr.cell? ⟨gb159,2,none⟩=some (.int .i64 a0_2):=(blk_cell BK159.out 2).trans rfl
       have hfz17_0:=blk_frozen BK159.out 0
       have hfz17_1:=blk_frozen BK159.out 1
       have hfz17_2:=blk_frozen BK159.out 2
       go_wp2_with (first|((with_reducible refine gate_callee (f:=131) rfl ?_);refine goesL_ (some 32) rfl rfl Try.func131 d5 rfl #[.agg #[.int .i64 a0_0, .int .i64 a0_1, .int .i64 a0_2], .int .i64 x26_1] rfl d1 ?_;(with_reducible refine (impl_GroupOf.calls k1 a0_0 a0_1 a0_2 x26_1 t166 t167 _ A14.out).mono ?_);rintro e w18 ⟨rfl,hb⟩;refine ⟨_,rfl,?_⟩;have n0_:=am (Kd.R_below d7 hb);have n1_:=am (qb (g:=gb159) (o:=.cells #[.int .i64 a0_0, .int .i64 a0_1, .int .i64 a0_2] 51 (0,0)) (by (with_reducible repeat (first|refine qn ?_ _|refine qd ?_|refine qa ?_ _));exact BK159.out) hb);have n2_:=am (pu (by repeat (first|(with_reducible first|exact HB.out|apply pa|apply pb|apply pd|refine pt ?_ GE159.out)|exact HB.out)) hb);clear HO_8;clear BK159;clear HB;have HO_8:=n0_;have BK159:=n1_;have HB:=n2_;clear n0_ n1_ n2_;(try clear hb);(try clear hb2);(try clear hk);(try clear hi)))
       go_roundg k1
       case measure=>have:=HK1.out;omega
       case rel=>exact ⟨(x8_1),(wrap64 (x26_1+1)),d4,H',⟨d26⟩,⟨d7⟩,⟨by (with_reducible repeat (first|refine qn ?_ _|refine qd ?_|refine qa ?_ _));exact BK159.out⟩,⟨by repeat (first|(with_reducible first|exact HB.out|apply pa|apply pb|apply pd|refine pt ?_ GE159.out)|exact HB.out)⟩⟩
      rw [if_neg c16] at H
      have c16b0:(x26_1 == a1)=false:=beq_eq_false_iff_ne.mpr c16
      have c16b1:(x26_1 != a1)=true:=bne_iff_ne.mpr c16
      by_cases c19:x8_1.length < 17592186044416
      ·rw [if_pos c19] at H
       have LMc19:=am c19
       clear c19
       obtain ⟨y168,hy168⟩:∃ y_:List Int,y_=(x8_1 ++ [x26_1]):=⟨_,rfl⟩
       replace H:(impl_HelpersOf.l0 k1 a1 t160 y168 (wrap64 (t165+a0_0)) (wrap64 (x26_1+1)) a0_0 a0_1 a0_2)=some (r1,r2):=by first|(rw [hy168];with_reducible exact H)|(have H2_:=(Option.bind_some _ _).symm.trans H;rw [hy168];with_reducible exact H2_)|(have H2_:=(Option.bind_some _ _).symm.trans H;with_reducible exact H2_)|with_reducible exact H|(rw [hy168];exact H)|exact H
       have Ny168:=am hy168
       clear hy168
       have H':=am H
       clear H
       have hcz20_0:wr.cell? ⟨gb159,0,none⟩=some (.int .i64 a0_0):=(blk_cell BK159.out 0).trans rfl
       have hcz20_1:wr.cell? ⟨gb159,1,none⟩=some (.int .i64 a0_1):=(blk_cell BK159.out 1).trans rfl
       have hcz20_2:wr.cell? ⟨gb159,2,none⟩=some (.int .i64 a0_2):=(blk_cell BK159.out 2).trans rfl
       have hfz20_0:=blk_frozen BK159.out 0
       have hfz20_1:=blk_frozen BK159.out 1
       have hfz20_2:=blk_frozen BK159.out 2
       go_wp2_with (first|((with_reducible refine gate_callee (f:=131) rfl ?_);refine goesL_ (some 32) rfl rfl Try.func131 d5 rfl #[.agg #[.int .i64 a0_0, .int .i64 a0_1, .int .i64 a0_2], .int .i64 x26_1] rfl d1 ?_;(with_reducible refine (impl_GroupOf.calls k1 a0_0 a0_1 a0_2 x26_1 t166 t167 _ A14.out).mono ?_);rintro e w21 ⟨rfl,hb⟩;refine ⟨_,rfl,?_⟩;have n0_:=am (Kd.R_below d7 hb);have n1_:=am (qb (g:=gb159) (o:=.cells #[.int .i64 a0_0, .int .i64 a0_1, .int .i64 a0_2] 51 (0,0)) (by (with_reducible repeat (first|refine qn ?_ _|refine qd ?_|refine qa ?_ _));exact BK159.out) hb);have n2_:=am (pu (by repeat (first|(with_reducible first|exact HB.out|apply pa|apply pb|apply pd|refine pt ?_ GE159.out)|exact HB.out)) hb);clear HO_8;clear BK159;clear HB;have HO_8:=n0_;have BK159:=n1_;have HB:=n2_;clear n0_ n1_ n2_;(try clear hb);(try clear hb2);(try clear hk);(try clear hi))|((with_reducible refine gate_builtin (b:=.append) (xs:=#[.tmp 43, .tmp 45]) rfl ?_);at_builtin;refine Kd.R_append (Kd.int .i64) (w0:=w) w.heap.size rfl (.tmp 43) (.tmp 45) 62 3 (.int .i64 0) 8 rfl Try.underlying62 info3 rfl d12 d16 u8 x8_1 x26_1 [.int .i64 x26_1] (fun _=>True) (fun _=>False) rfl rfl ?aP (fun _ hk=>hk.elim) ?aF ?aO ?aB ?aS ?aL ?_;(case aP=>exact rfl);(case aB=>exact (by repeat (first|(with_reducible first|exact HB.out|apply pa|apply pb|apply pd|refine pt ?_ GE159.out)|exact HB.out)));(case aF=>exact (fun _ _=>trivial));(case aO=>exact d7);(case aS=>exact (pz (by repeat (first|(with_reducible first|exact HB.out|apply pa|apply pb|apply pd|refine pt ?_ GE159.out)|exact HB.out))));(case aL=>have:=LMc19.out;omega);intro v169 w22 ho hb hg hat;rw [← Ny168.out] at ho;have n0_:=am (blk_grown (g:=gb159) (o:=.cells #[.int .i64 a0_0, .int .i64 a0_1, .int .i64 a0_2] 51 (0,0)) (by (with_reducible repeat (first|refine qn ?_ _|refine qd ?_|refine qa ?_ _));exact BK159.out) hg (Kd.R_ne HO_8.out BK159.out d12));have n1_:=am (hb);have n2_:=am (ho);clear BK159;clear HB;clear HO_8;have BK159:=n0_;have HB:=n1_;have HO170:=n2_;clear n0_ n1_ n2_;clear ho hb hg hat))
       go_roundg k1
       case measure=>have:=HK1.out;omega
       case rel=>exact ⟨(y168),(wrap64 (x26_1+1)),d4,H',⟨d26⟩,⟨by (with_reducible repeat (first|apply Kd.R_alloc|apply Kd.R_drewN|apply Kd.R_drew));exact HO170.out⟩,⟨by (with_reducible repeat (first|refine qn ?_ _|refine qd ?_|refine qa ?_ _));exact BK159.out⟩,⟨by repeat (first|(with_reducible first|exact HB.out|apply pa|apply pb|apply pd|refine pt ?_ GE159.out)|exact HB.out)⟩⟩
      rw [if_neg c19] at H
      exact absurd H d24
     rw [if_neg c15] at H
     have c15b0:(t166 == t160)=false:=beq_eq_false_iff_ne.mpr c15
     have c15b1:(t166 != t160)=true:=bne_iff_ne.mpr c15
     have H':=am H
     clear H
     have hcz23_0:wr.cell? ⟨gb159,0,none⟩=some (.int .i64 a0_0):=(blk_cell BK159.out 0).trans rfl
     have hcz23_1:wr.cell? ⟨gb159,1,none⟩=some (.int .i64 a0_1):=(blk_cell BK159.out 1).trans rfl
     have hcz23_2:wr.cell? ⟨gb159,2,none⟩=some (.int .i64 a0_2):=(blk_cell BK159.out 2).trans rfl
     have hfz23_0:=blk_frozen BK159.out 0
     have hfz23_1:=blk_frozen BK159.out 1
     have hfz23_2:=blk_frozen BK159.out 2
     go_wp2_with (first|((with_reducible refine gate_callee (f:=131) rfl ?_);refine goesL_ (some 32) rfl rfl Try.func131 d5 rfl #[.agg #[.int .i64 a0_0, .int .i64 a0_1, .int .i64 a0_2], .int .i64 x26_1] rfl d1 ?_;(with_reducible refine (impl_GroupOf.calls k1 a0_0 a0_1 a0_2 x26_1 t166 t167 _ A14.out).mono ?_);rintro e w24 ⟨rfl,hb⟩;refine ⟨_,rfl,?_⟩;have n0_:=am (Kd.R_below d7 hb);have n1_:=am (qb (g:=gb159) (o:=.cells #[.int .i64 a0_0, .int .i64 a0_1, .int .i64 a0_2] 51 (0,0)) (by (with_reducible repeat (first|refine qn ?_ _|refine qd ?_|refine qa ?_ _));exact BK159.out) hb);have n2_:=am (pu (by repeat (first|(with_reducible first|exact HB.out|apply pa|apply pb|apply pd|refine pt ?_ GE159.out)|exact HB.out)) hb);clear HO_8;clear BK159;clear HB;have HO_8:=n0_;have BK159:=n1_;have HB:=n2_;clear n0_ n1_ n2_;(try clear hb);(try clear hb2);(try clear hk);(try clear hi)))
     go_roundg k1
     case measure=>have:=HK1.out;omega
     case rel=>exact ⟨(x8_1),(wrap64 (x26_1+1)),d4,H',⟨d26⟩,⟨d7⟩,⟨by (with_reducible repeat (first|refine qn ?_ _|refine qd ?_|refine qa ?_ _));exact BK159.out⟩,⟨by repeat (first|(with_reducible first|exact HB.out|apply pa|apply pb|apply pd|refine pt ?_ GE159.out)|exact HB.out)⟩⟩
    rw [if_neg c13] at H
    have c13b0:decide (x26_1 < (wrap64 (t165+a0_0)))=false:=decide_eq_false c13
    clear c13
    simp only [Option.some.injEq,Prod.mk.injEq] at H
    obtain ⟨rfl,rfl⟩:=H
    go_wp2
    go_ret2
    exact ⟨_,d2,d7,by repeat (first|(with_reducible first|exact HB.out|apply pa|apply pb|apply pd|refine pt ?_ GE159.out)|exact HB.out)⟩
 replace c4:=Bool.eq_false_iff.mpr c4
 subst c4
 have H1:(some (([]:List Int),false))=some (r1,r2):=by rw [if_neg (show ¬ (false=true) by decide)] at H;exact H
 clear H
 have H:=H1
 clear H1
 simp only [Option.some.injEq,Prod.mk.injEq] at H
 obtain ⟨rfl,rfl⟩:=H
 go_enter Try.func75,Try.ntmps75
 go_wp2_with (first|((with_reducible refine gate_dst (N:=2) rfl ?_);refine box_event ?hg (N:=2) ?hd (cs:=#[.int .i64 a0_0, .int .i64 a0_1, .int .i64 a0_2]) (t:=51) ?hr ?_;(case hd=>rfl);(case hg=>rfl);(case hr=>first|(go_simp;done)|(go_simp;rfl));intro gb159 hg w25 hbox hb;have n0_:=am (pu d0 hb);have n1_:=am (hbox);have n2_:=am ((by rw [hg];exact (pz d0):w.heap.size≤gb159));have n3_:=n2_;clear HB;have HB:=n0_;have BK159:=n1_;have GW159:=n2_;have GE159:=n3_;clear n0_ n1_ n2_ n3_;clear hb hbox hg;have hcz26_0:w25.cell? ⟨gb159,0,none⟩=some (.int .i64 a0_0):=(blk_cell BK159.out 0).trans rfl;have hcz26_1:w25.cell? ⟨gb159,1,none⟩=some (.int .i64 a0_1):=(blk_cell BK159.out 1).trans rfl;have hcz26_2:w25.cell? ⟨gb159,2,none⟩=some (.int .i64 a0_2):=(blk_cell BK159.out 2).trans rfl;have hfz26_0:=blk_frozen BK159.out 0;have hfz26_1:=blk_frozen BK159.out 1;have hfz26_2:=blk_frozen BK159.out 2)|((with_reducible refine gate_callee (f:=131) rfl ?_);refine goesL_ (some 15) rfl rfl Try.func131 d5 rfl #[.agg #[.int .i64 a0_0, .int .i64 a0_1, .int .i64 a0_2], .int .i64 a1] rfl d1 ?_;(with_reducible refine (impl_GroupOf.calls k a0_0 a0_1 a0_2 a1 t160 false _ A3.out).mono ?_);rintro e w27 ⟨rfl,hb⟩;refine ⟨_,rfl,?_⟩;have n0_:=am (qb (g:=gb159) (o:=.cells #[.int .i64 a0_0, .int .i64 a0_1, .int .i64 a0_2] 51 (0,0)) (by (with_reducible repeat (first|refine qn ?_ _|refine qd ?_|refine qa ?_ _));exact BK159.out) hb);have n1_:=am (pu (by repeat (first|(with_reducible first|exact HB.out|apply pa|apply pb|apply pd|refine pt ?_ GE159.out)|exact HB.out)) hb);clear BK159;clear HB;have BK159:=n0_;have HB:=n1_;clear n0_ n1_;(try clear hb);(try clear hb2);(try clear hk);(try clear hi)))
 go_ret2
 exact ⟨_,d2,d15,by repeat (first|(with_reducible first|exact HB.out|apply pa|apply pb|apply pd|refine pt ?_ GE159.out)|exact HB.out)⟩

def impl_isIncreasing.l0:Nat→List Int→Int→List Int→Int→Int→Option (Bool)
 | 0,_,_,_,_,_=>none
 | k+1,x0,x1,x7,x8,x9=>if x9 < x8 then (if 0≤x9 then (if x9 < (x7.length:Int) then ((impl_within.f (rd x7 x9) 0 (wrap64 (x1 - 1))).bind fun t172=>(if t172=true then (if x9 > 0 then (if 0≤(wrap64 (x9 - 1)) then (if (wrap64 (x9 - 1)) < (x0.length:Int) then (if (rd x7 x9)≤(rd x0 (wrap64 (x9 - 1))) then (some false) else (impl_isIncreasing.l0 k x0 x1 x7 x8 (wrap64 (x9+1)))) else (none)) else (none)) else (impl_isIncreasing.l0 k x0 x1 x7 x8 (wrap64 (x9+1)))) else (some false))) else (none)) else (none)) else (some true)
def impl_isIncreasing.f (k:Nat) (l0:List Int) (a1:Int):Option (Bool):=impl_isIncreasing.l0 k l0 a1 l0 (l0.length:Int) 0
theorem impl_isIncreasing.mono_l:∀ k,(∀ y0 y1 y2 y3 y4,LeO (impl_isIncreasing.l0 k y0 y1 y2 y3 y4) (impl_isIncreasing.l0 (k+1) y0 y1 y2 y3 y4))
 | 0=>fun _ _ _ _ _ r h=>by simp [impl_isIncreasing.l0] at h
 | k+1=>by
  have ih0:=impl_isIncreasing.mono_l k
  intro y0 y1 y2 y3 y4
  unfold impl_isIncreasing.l0
  repeat' first
  | (with_reducible exact ih0 _ _ _ _ _)
  |(with_reducible exact LeO.refl _)|(with_reducible exact LeO.none _)|(with_reducible refine LeO.ite ?_ ?_)|(with_reducible refine LeO.bind ?_ (fun _=>?_))|exact ih0 _ _ _ _ _|exact LeO.none _|refine LeO.ite ?_ ?_|refine LeO.bind ?_ (fun _=>?_)
theorem impl_isIncreasing.mono:∀ a0 a1 k,LeO (impl_isIncreasing.f k a0 a1) (impl_isIncreasing.f (k+1) a0 a1):=by
 intro a0 a1 k
 have ih0:=impl_isIncreasing.mono_l k
 unfold impl_isIncreasing.f
 repeat' first
   | (with_reducible exact ih0 _ _ _ _ _)
   |(with_reducible exact LeO.refl _)|(with_reducible exact LeO.none _)|(with_reducible refine LeO.ite ?_ ?_)|(with_reducible refine LeO.bind ?_ (fun _=>?_))|exact ih0 _ _ _ _ _|exact LeO.none _|refine LeO.ite ?_ ?_|refine LeO.bind ?_ (fun _=>?_)
theorem impl_isIncreasing.calls (k:Nat) (A0:Option Addr) (c0:Nat) (l0:List Int) (a1:Int) (r:Bool) (w:World) (hr0:Kd.C (Kd.int .i64) w A0 l0.length l0) (hc0:l0.length≤c0) (h:impl_isIncreasing.f k l0 a1=some r) :
  Calls Try.prog 91 #[.slice A0 l0.length c0, .int .i64 a1] w fun e w'=>e = .returned (.bool r)∧Drawn0 w w':=by
 have HR0:=am hr0
 have HC0:=am hc0
 clear hr0 hc0
 have H:(impl_isIncreasing.l0 k l0 a1 l0 (l0.length:Int) 0)=some r:=h
 clear h
 have H':=am H
 clear H
 go_enter Try.func91,Try.ntmps91
 go_wp2
 go_loopg [9] k (fun kq v9 w'=>∃ (x9_1:Int),v9 = .int .i64 x9_1∧Aside0 (impl_isIncreasing.l0 kq l0 a1 l0 (l0.length:Int) x9_1=some r)∧Aside0 (kq≤k)∧Drawn0 w w')
 case atStart=>exact ⟨(0),d4,H',⟨Nat.le_refl _⟩,d11⟩
 case round =>
  clear H'
  try clear p2
  obtain ⟨x9_1,rfl,HA,HK1,⟨m1,rfl⟩⟩:=hrel
  cases gk with
  | zero=>exact absurd HA.out (by simp [impl_isIncreasing.l0])
  | succ k1 =>
   have H:=HA.out
   clear HA
   simp only [impl_isIncreasing.l0] at H
   by_cases c3:x9_1 < (l0.length:Int)
   ·rw [if_pos c3] at H
    have c3b0:decide (x9_1 < (l0.length:Int))=true:=decide_eq_true c3
    clear c3
    by_cases c4:0≤x9_1
    ·rw [if_pos c4] at H
     have c4b0:decide (0≤x9_1)=true:=decide_eq_true c4
     clear c4
     by_cases c5:x9_1 < (l0.length:Int)
     ·rw [if_pos c5] at H
      have c5b0:decide (x9_1 < (l0.length:Int))=true:=decide_eq_true c5
      clear c5
      replace H:=Option.bind_eq_some_iff.mp H
      obtain ⟨t172,A60,H⟩:=H
      replace H:(if t172=true then (if x9_1 > 0 then (if 0≤(wrap64 (x9_1 - 1)) then (if (wrap64 (x9_1 - 1)) < (l0.length:Int) then (if (rd l0 x9_1)≤(rd l0 (wrap64 (x9_1 - 1))) then (some false) else (impl_isIncreasing.l0 k1 l0 a1 l0 (l0.length:Int) (wrap64 (x9_1+1)))) else (none)) else (none)) else (impl_isIncreasing.l0 k1 l0 a1 l0 (l0.length:Int) (wrap64 (x9_1+1)))) else (some false))=some r:=H
      have A6:=am A60
      clear A60
      by_cases c7:t172=true
      ·subst c7
       have H1:(if x9_1 > 0 then (if 0≤(wrap64 (x9_1 - 1)) then (if (wrap64 (x9_1 - 1)) < (l0.length:Int) then (if (rd l0 x9_1)≤(rd l0 (wrap64 (x9_1 - 1))) then (some false) else (impl_isIncreasing.l0 k1 l0 a1 l0 (l0.length:Int) (wrap64 (x9_1+1)))) else (none)) else (none)) else (impl_isIncreasing.l0 k1 l0 a1 l0 (l0.length:Int) (wrap64 (x9_1+1))))=some r:=by rw [if_pos rfl] at H;exact H
       clear H
       have H:=H1
       clear H1
       by_cases c8:x9_1 > 0
       ·rw [if_pos c8] at H
        have c8b0:decide (0 < x9_1)=true:=decide_eq_true c8
        clear c8
        obtain ⟨ji9,hji9⟩:∃ j_:Int,(wrap64 (x9_1 - 1))=j_:=⟨_,rfl⟩
        replace H:(if 0≤(ji9) then (if (ji9) < (l0.length:Int) then (if (rd l0 x9_1)≤(rd l0 (ji9)) then (some false) else (impl_isIncreasing.l0 k1 l0 a1 l0 (l0.length:Int) (wrap64 (x9_1+1)))) else (none)) else (none))=some r:=by first|(rw [hji9] at H;exact H)|(simp only [hji9] at H ⊢;exact H)
        (try rw [hji9] at A6)
        have hji9w:(IntKind.i64.wrap (x9_1 - 1))=ji9:=(i64_w _).trans hji9
        by_cases c10:0≤(ji9)
        ·rw [if_pos c10] at H
         have c10b0:decide (0≤(ji9))=true:=decide_eq_true c10
         clear c10
         by_cases c11:(ji9) < (l0.length:Int)
         ·rw [if_pos c11] at H
          have c11b0:decide ((ji9) < (l0.length:Int))=true:=decide_eq_true c11
          clear c11
          by_cases c12:(rd l0 x9_1)≤(rd l0 (ji9))
          ·rw [if_pos c12] at H
           have c12b0:decide ((rd l0 x9_1)≤(rd l0 (ji9)))=true:=decide_eq_true c12
           clear c12
           obtain rfl:=Option.some.inj H
           have p171:0≤(x9_1:Int):=od d3
           have q171:x9_1 < (l0.length:Int):=od d3
           obtain ⟨ad171,e171,hx171_0⟩:=Kd.at_int HR0.out x9_1 p171 q171
           cases e171
           replace p171:=eq_true p171
           replace q171:=eq_true q171
           go_wp2_with (first|((with_reducible refine gate_callee (f:=104) rfl ?_);refine goesL_ (some 17) rfl rfl Try.func104 d5 rfl #[.int .i64 (rd l0 x9_1), .int .i64 0, .int .i64 (wrap64 (a1 - 1))] rfl d1 ?_;(with_reducible refine (impl_within.calls (rd l0 x9_1) 0 (wrap64 (a1 - 1)) true _ A6.out).mono ?_);rintro e w' ⟨rfl,⟨nd,rfl⟩⟩;refine ⟨_,rfl,?_⟩;have p173:0≤((ji9):Int):=od d3;have q173:(ji9) < (l0.length:Int):=od d3;obtain ⟨ad173,e173,hx173_0⟩:=Kd.at_int HR0.out (ji9) p173 q173;obtain rfl:ad171=ad173:=(by injection e173);replace p173:=eq_true p173;replace q173:=eq_true q173))
           go_ret
           exact ⟨by first|rfl|(simp;done)|(simp only [← hji9] <;> (first|rfl|simp))|(simp [*];done),d11⟩
          rw [if_neg c12] at H
          have c12b0:decide ((rd l0 x9_1)≤(rd l0 (ji9)))=false:=decide_eq_false c12
          clear c12
          have H':=am H
          clear H
          have p171:0≤(x9_1:Int):=od d3
          have q171:x9_1 < (l0.length:Int):=od d3
          obtain ⟨ad171,e171,hx171_0⟩:=Kd.at_int HR0.out x9_1 p171 q171
          cases e171
          replace p171:=eq_true p171
          replace q171:=eq_true q171
          go_wp2_with (first|((with_reducible refine gate_callee (f:=104) rfl ?_);refine goesL_ (some 17) rfl rfl Try.func104 d5 rfl #[.int .i64 (rd l0 x9_1), .int .i64 0, .int .i64 (wrap64 (a1 - 1))] rfl d1 ?_;(with_reducible refine (impl_within.calls (rd l0 x9_1) 0 (wrap64 (a1 - 1)) true _ A6.out).mono ?_);rintro e w' ⟨rfl,⟨nd,rfl⟩⟩;refine ⟨_,rfl,?_⟩;have p173:0≤((ji9):Int):=od d3;have q173:(ji9) < (l0.length:Int):=od d3;obtain ⟨ad173,e173,hx173_0⟩:=Kd.at_int HR0.out (ji9) p173 q173;obtain rfl:ad171=ad173:=(by injection e173);replace p173:=eq_true p173;replace q173:=eq_true q173))
          go_roundg k1
          case measure=>have:=HK1.out;omega
          case rel=>exact ⟨(wrap64 (x9_1+1)),d4,H',⟨d26⟩,d11⟩
         rw [if_neg c11] at H
         exact absurd H d24
        rw [if_neg c10] at H
        exact absurd H d24
       rw [if_neg c8] at H
       have c8b0:decide (0 < x9_1)=false:=decide_eq_false c8
       clear c8
       have H':=am H
       clear H
       have p171:0≤(x9_1:Int):=od d3
       have q171:x9_1 < (l0.length:Int):=od d3
       obtain ⟨ad171,e171,hx171_0⟩:=Kd.at_int HR0.out x9_1 p171 q171
       cases e171
       replace p171:=eq_true p171
       replace q171:=eq_true q171
       go_wp2_with (first|((with_reducible refine gate_callee (f:=104) rfl ?_);refine goesL_ (some 17) rfl rfl Try.func104 d5 rfl #[.int .i64 (rd l0 x9_1), .int .i64 0, .int .i64 (wrap64 (a1 - 1))] rfl d1 ?_;(with_reducible refine (impl_within.calls (rd l0 x9_1) 0 (wrap64 (a1 - 1)) true _ A6.out).mono ?_);rintro e w' ⟨rfl,⟨nd,rfl⟩⟩;refine ⟨_,rfl,?_⟩))
       go_roundg k1
       case measure=>have:=HK1.out;omega
       case rel=>exact ⟨(wrap64 (x9_1+1)),d4,H',⟨d26⟩,d11⟩
      replace c7:=Bool.eq_false_iff.mpr c7
      subst c7
      have H1:(some false)=some r:=by rw [if_neg (show ¬ (false=true) by decide)] at H;exact H
      clear H
      have H:=H1
      clear H1
      obtain rfl:=Option.some.inj H
      have p171:0≤(x9_1:Int):=od d3
      have q171:x9_1 < (l0.length:Int):=od d3
      obtain ⟨ad171,e171,hx171_0⟩:=Kd.at_int HR0.out x9_1 p171 q171
      cases e171
      replace p171:=eq_true p171
      replace q171:=eq_true q171
      go_wp2_with (first|((with_reducible refine gate_callee (f:=104) rfl ?_);refine goesL_ (some 17) rfl rfl Try.func104 d5 rfl #[.int .i64 (rd l0 x9_1), .int .i64 0, .int .i64 (wrap64 (a1 - 1))] rfl d1 ?_;(with_reducible refine (impl_within.calls (rd l0 x9_1) 0 (wrap64 (a1 - 1)) false _ A6.out).mono ?_);rintro e w' ⟨rfl,⟨nd,rfl⟩⟩;refine ⟨_,rfl,?_⟩))
      go_ret
      exact ⟨d4,d11⟩
     rw [if_neg c5] at H
     exact absurd H d24
    rw [if_neg c4] at H
    exact absurd H d24
   rw [if_neg c3] at H
   have c3b0:decide (x9_1 < (l0.length:Int))=false:=decide_eq_false c3
   clear c3
   obtain rfl:=Option.some.inj H
   go_wp2
   go_ret
   exact ⟨d4,d11⟩

-- NOT PRINTED: function 162 (slices_IndexFunc_string_string)

-- NOT PRINTED: function 156 (slices_ContainsFunc_string_string)

section
open Go.Proofs.Yteflgifmdojahaa.KitW
set_option maxHeartbeats 4000000 in
theorem texts_IndexFunc (g:Nat) (eg:∀ args w,(callFunc g args).run Try.prog w = .ok (.enter g args) w) (fv:Value) (p:Nat→Bool) (ad:Addr) (n c:Nat) (v:Nat→Value) (w:World) (hbig:n≤9223372036854775806)
  (hc:∀ i,i < n→w.cell? (ad.add i)=some (v i))
  (hp:∀ i,i < n→∀ W,Drawn0 w W→Calls Try.prog g #[v i,fv] W fun e w'=>e = .returned (.bool (p i))∧Drawn0 W w') :
  Calls Try.prog 162 #[.slice (some ad) n c, .func (.func g) #[] #[fv]] w fun e w'=>(∃ r,e = .returned (.int .i64 r)∧IdxOf p n r)∧Drawn0 w w':=by
 have HP:=am hp
 have HC:=am hc
 clear hp hc
 go_enter Try.func162,Try.ntmps162
 go_wp2
 go_loopg [5,8] n (fun gg _ s8 wr=>∃ kk:Nat,kk≤n∧n - kk≤gg∧s8 = .int .i64 kk∧Aside0 (Drawn0 w wr)∧Aside0 (∀ j,j < kk→p j=false))
 case atStart=>exact ⟨0,Nat.zero_le _,d16,rfl,⟨Drawn0.refl _⟩,⟨fun j hj=>absurd hj (Nat.not_lt_zero _)⟩⟩
 case round =>
  obtain ⟨kk,hkk,hg,rfl,HD,HA⟩:=hrel
  by_cases hlt:kk < n
  ·have hltz:(kk:Int) < (n:Int):=by omega
   have hcell:wr.cell? (ad.add kk)=some (v kk):=by
    obtain ⟨q,rfl⟩:=HD.out.out
    exact HC.out kk hlt
   have hcall:=HP.out kk hlt
   cases hq:p kk with
   | true =>
    rw [hq] at hcall
    have HQ:=am hq
    clear hq
    have HX:=am hcall
    clear hcall
    go_wp2_with (go_at_fn g;refine (HX.out _ ?dr).mono ?_;(case dr=>exact HD.out);rintro e w' ⟨rfl,hd⟩)
    go_ret
    exact ⟨⟨_,rfl, .inr ⟨kk,hlt,rfl,HQ.out,HA.out⟩⟩,drawn_trans HD.out hd⟩
   | false =>
    rw [hq] at hcall
    have HQ:=am hq
    clear hq
    have HX:=am hcall
    clear hcall
    go_wp2_with (go_at_fn g;refine (HX.out _ ?dr).mono ?_;(case dr=>exact HD.out);rintro e w' ⟨rfl,hd⟩)
    go_roundg (n - (kk+1))
    case measure=>omega
    case rel=>exact ⟨kk+1,d16,d16,by go_num,⟨drawn_trans HD.out hd⟩,⟨fun j hj=>by by_cases e:j=kk;exact e ▸ HQ.out;exact HA.out j d16⟩⟩
  have hltz:¬ (kk:Int) < (n:Int):=by omega
  have:kk=n:=by omega
  subst this
  go_wp2
  go_ret
  exact ⟨⟨_,rfl, .inl ⟨rfl,HA.out⟩⟩,HD.out⟩
set_option maxHeartbeats 4000000 in
theorem texts_ContainsFunc (g:Nat) (eg:∀ args w,(callFunc g args).run Try.prog w = .ok (.enter g args) w) (fv:Value) (p:Nat→Bool) (ad:Addr) (n c:Nat) (v:Nat→Value) (w:World) (hbig:n≤9223372036854775806)
  (hc:∀ i,i < n→w.cell? (ad.add i)=some (v i))
  (hp:∀ i,i < n→∀ W,Drawn0 w W→Calls Try.prog g #[v i,fv] W fun e w'=>e = .returned (.bool (p i))∧Drawn0 W w') :
  Calls Try.prog 156 #[.slice (some ad) n c, .func (.func g) #[] #[fv]] w fun e w'=>e = .returned (.bool ((List.range n).any p))∧Drawn0 w w':=by
 have HX:=am (texts_IndexFunc g eg fv p ad n c v w hbig hc hp)
 clear hp hc
 go_enter Try.func156,Try.ntmps156
 go_wp2_with (go_at_call 162;refine HX.out.mono ?_;rintro e w' ⟨⟨r,rfl,hr⟩,hd⟩)
 go_ret
 refine ⟨?_,hd⟩
 rw [← idxOf_nonneg hr]
 first|rfl|(simp;done)
/-- No text at all: nothing is looked at. -/
theorem texts_none (A:Option Addr) (c:Nat) (fv:Value) (w:World) :
  Calls Try.prog 156 #[.slice A 0 c,fv] w fun e w'=>e = .returned (.bool false)∧w=w':=by
 have HX:∀ w:World,Calls Try.prog 162 #[.slice A 0 c,fv] w fun e w'=>e = .returned (.int .i64 (-1))∧w=w':=by
  intro w
  go_enter Try.func162,Try.ntmps162
  go_wp2
  go_loopg [5,8] 0 (fun gg _ s8 wr=>s8 = .int .i64 0∧w=wr)
  case atStart=>exact ⟨rfl,rfl⟩
  case round =>
   obtain ⟨rfl,rfl⟩:=hrel
   go_wp2
   go_ret
   exact ⟨rfl,rfl⟩
 go_enter Try.func156,Try.ntmps156
 go_wp2_with (go_at_call 162;refine (HX _).mono ?_;rintro e w' ⟨rfl,rfl⟩)
 go_ret
 exact ⟨rfl,rfl⟩
/-- The test of one text. -/
theorem texts_test (gb:Nat) (ad:Addr) (n c:Nat) (hn:0 < n) (s0 s:ByteArray) (hs:s.size≤140737488355328) (h0s:s0.size≤140737488355328) (W:World)
  (hbox:W.cell? ⟨gb,0,none⟩=some (.slice (some ad) n c)) (h0:W.cell? (ad.add 0)=some (.string s0)) :
  Calls Try.prog 157 #[.string s, .pointer (some ⟨gb,0,none⟩)] W fun e w'=>e = .returned (.bool (decide (40 < s.size) ||s.size != s0.size))∧Drawn0 W w':=by
 rw [Addr.add_zero'] at h0
 have hn':(0 < n)=True:=eq_true hn
 by_cases h1:40 < s.size
 ·have h1z:decide ((s.size:Int) > 40)=true:=decide_eq_true d16
  have h1n:decide (40 < s.size)=true:=decide_eq_true h1
  go_enter Try.func157,Try.ntmps157
  go_wp2
  go_ret
  refine ⟨?_,Drawn0.refl _⟩
  rw [h1n];rfl
 have h1z:decide ((s.size:Int) > 40)=false:=decide_eq_false d16
 have h1n:decide (40 < s.size)=false:=decide_eq_false h1
 go_enter Try.func157,Try.ntmps157
 go_wp2
 go_ret
 refine ⟨?_,Drawn0.refl _⟩
 rw [h1n,Bool.false_or]
 by_cases e:s.size=s0.size
 ·rw [e];simp
 have e2:¬ ((s.size:Int)=(s0.size:Int)):=by omega
 simp only [bne]
 rw [show ((s.size:Int) == (s0.size:Int))=false by simpa using e2,show (s.size == s0.size)=false by simpa using e]
 rfl
def impl_areEqual.f (l0:List ByteArray):Option (Bool):=if l0.length≤140737488355328∧∀ s ∈ l0,s.size≤140737488355328 then some (textsOk l0) else none
set_option maxHeartbeats 4000000 in
theorem impl_areEqual.calls (A0:Option Addr) (c0:Nat) (l0:List ByteArray) (r:Bool) (w:World) (hr0:Kd.C Kd.string w A0 l0.length l0) (hc0:l0.length≤c0) (h:impl_areEqual.f l0=some r) :
  Calls Try.prog 133 #[.slice A0 l0.length c0] w fun e w'=>e = .returned (.bool r)∧Below w.heap.size w w':=by
 unfold impl_areEqual.f at h
 by_cases hs:l0.length≤140737488355328∧∀ s ∈ l0,s.size≤140737488355328
 ·rw [if_pos hs] at h
  obtain rfl:=Option.some.inj h
  clear h
  have HS:=am hs
  clear hs
  by_cases hp:0 < l0.length
  ·obtain ⟨ad,rfl,_⟩:=hr0.2.2 hp
   have hb9:l0.length≤9223372036854775806:=by have:=HS.out.1;omega
   have hcell:∀ i,i < l0.length→w.cell? (ad.add i)=some (.string (l0.getD i ByteArray.empty)):=fun i hi=>by
    obtain ⟨ad',e,h⟩:=Kd.at_string hr0 (i:Int) d16 d16
    injection e with e
    subst e
    rw [Int.toNat_natCast] at h
    rw [h]
    unfold rdOf
    rw [Int.toNat_natCast]
   have HC:=am hcell
   have HP:=am hp
   have H9:=am hb9
   clear hcell hr0 hp hb9
   go_enter Try.func133,Try.ntmps133
   go_wp2_with fail
   obtain ⟨W,hW⟩:∃ W:World,W=w.alloc (.cells #[.slice (some ad) l0.length c0] 154 (0,0)):=⟨_,rfl⟩
   have hb:Below w.heap.size w W:=by rw [hW];exact pa (Below.refl _ _) _
   have hc1:W.cell? ⟨w.heap.size,0,none⟩=some (.slice (some ad) l0.length c0):=by rw [hW];go_simp
   rw [← hW]
   clear hW
   have hcell:∀ i,i < l0.length→W.cell? (ad.add i)=some (.string (l0.getD i ByteArray.empty)):=fun i hi=>(hb.cell (World.block_lt_of_cell? w _ (HC.out i hi))).trans (HC.out i hi)
   have hsz:∀ i,(l0.getD i ByteArray.empty).size≤140737488355328:=fun i=>by
    rw [List.getD_eq_getElem?_getD]
    by_cases hi:i < l0.length
    ·rw [List.getElem?_eq_getElem hi];exact HS.out.2 _ (List.getElem_mem hi)
    rw [List.getElem?_eq_none d16];decide
   have hcf:=texts_ContainsFunc 157 (enters_of Try.func157 rfl rfl) (.pointer (some ⟨w.heap.size,0,none⟩)) (fun i=>decide (40 < (l0.getD i ByteArray.empty).size) ||(l0.getD i ByteArray.empty).size != (l0.getD 0 ByteArray.empty).size) ad l0.length c0 (fun i=>.string (l0.getD i ByteArray.empty)) W H9.out hcell
    (fun i hi W1 hd=>by
     obtain ⟨q3,rfl⟩:=hd.out
     exact texts_test w.heap.size ad l0.length c0 HP.out (l0.getD 0 ByteArray.empty) (l0.getD i ByteArray.empty) (hsz i) (hsz 0) _ hc1 (hcell 0 HP.out))
   have HB:=am hb
   clear hb hcell hsz
   refine hcf.mono ?_
   clear hcf
   rintro e w' ⟨rfl,⟨q3,rfl⟩⟩
   go_wp2
   go_ret
   exact ⟨rfl,pb HB.out _⟩
  have e0:l0=[]:=List.eq_nil_of_length_eq_zero d16
  subst e0
  clear hp hr0 HS hc0
  go_enter Try.func133,Try.ntmps133
  go_wp2_with (go_at_call 156;refine (texts_none _ _ _ _).mono ?_;rintro e w' ⟨rfl,rfl⟩)
  go_ret
  exact ⟨rfl,pa (Below.refl _ _) _⟩
 rw [if_neg hs] at h
 cases h
end

def impl_areShards.l0:Nat→Int→List Int→List ByteArray→List (S48)→Int→Int→Option (Bool)
 | 0,_,_,_,_,_,_=>none
 | k+1,x1,x5,x6,x11,x12,x13=>if x13 < x12 then (if 0≤x13 then (if x13 < (x11.length:Int) then (if x5.length < 17592186044416 then (if x6.length < 8796093022208 then (impl_areShards.l0 k x1 (x5 ++ [(rd_T48 x11 x13).f0]) (x6 ++ [(rd_T48 x11 x13).f1]) x11 x12 (wrap64 (x13+1))) else (none)) else (none)) else (none)) else (none)) else ((impl_isIncreasing.f k x5 x1).bind fun t188=>(if t188=true then ((impl_areEqual.f x6).bind fun t189=>(some t189)) else (some false)))
def impl_areShards.f (k:Nat) (l0:List (S48)) (a1:Int):Option (Bool):=impl_areShards.l0 k a1 (([]:List Int)) (([]:List ByteArray)) l0 (l0.length:Int) 0
theorem impl_areShards.mono_l:∀ k,(∀ y0 y1 y2 y3 y4 y5,LeO (impl_areShards.l0 k y0 y1 y2 y3 y4 y5) (impl_areShards.l0 (k+1) y0 y1 y2 y3 y4 y5))
 | 0=>fun _ _ _ _ _ _ r h=>by simp [impl_areShards.l0] at h
 | k+1=>by
  have ih0:=impl_areShards.mono_l k
  intro y0 y1 y2 y3 y4 y5
  unfold impl_areShards.l0
  repeat' first
  | (with_reducible exact ih0 _ _ _ _ _ _)
  | (with_reducible exact impl_isIncreasing.mono _ _ _)
  |(with_reducible exact LeO.refl _)|(with_reducible exact LeO.none _)|(with_reducible refine LeO.ite ?_ ?_)|(with_reducible refine LeO.bind ?_ (fun _=>?_))|exact ih0 _ _ _ _ _ _|exact impl_isIncreasing.mono _ _ _|exact LeO.none _|refine LeO.ite ?_ ?_|refine LeO.bind ?_ (fun _=>?_)
theorem impl_areShards.mono:∀ a0 a1 k,LeO (impl_areShards.f k a0 a1) (impl_areShards.f (k+1) a0 a1):=by
 intro a0 a1 k
 have ih0:=impl_areShards.mono_l k
 unfold impl_areShards.f
 repeat' first
   | (with_reducible exact ih0 _ _ _ _ _ _)
   | (with_reducible exact impl_isIncreasing.mono _ _ _)
   |(with_reducible exact LeO.refl _)|(with_reducible exact LeO.none _)|(with_reducible refine LeO.ite ?_ ?_)|(with_reducible refine LeO.bind ?_ (fun _=>?_))|exact ih0 _ _ _ _ _ _|exact impl_isIncreasing.mono _ _ _|exact LeO.none _|refine LeO.ite ?_ ?_|refine LeO.bind ?_ (fun _=>?_)
theorem impl_areShards.calls (k:Nat) (A0:Option Addr) (c0:Nat) (l0:List (S48)) (a1:Int) (r:Bool) (w:World) (hr0:Kd.C k48 w A0 l0.length l0) (hc0:l0.length≤c0) (h:impl_areShards.f k l0 a1=some r) :
  Calls Try.prog 76 #[.slice A0 l0.length c0, .int .i64 a1] w fun e w'=>e = .returned (.bool r)∧Below w.heap.size w w':=by
 have hu48:=Try.underlying48
 have HR0:=am hr0
 have HC0:=am hc0
 clear hr0 hc0
 have HB:=am (Below.refl w.heap.size w)
 have H:(impl_areShards.l0 k a1 (([]:List Int)) (([]:List ByteArray)) l0 (l0.length:Int) 0)=some r:=h
 clear h
 obtain ⟨y174,hy174⟩:∃ y_:List Int,y_=(([]:List Int)):=⟨_,rfl⟩
 replace H:(impl_areShards.l0 k a1 y174 (([]:List ByteArray)) l0 (l0.length:Int) 0)=some r:=by first|(rw [hy174];with_reducible exact H)|(have H2_:=(Option.bind_some _ _).symm.trans H;rw [hy174];with_reducible exact H2_)|(have H2_:=(Option.bind_some _ _).symm.trans H;with_reducible exact H2_)|with_reducible exact H|(rw [hy174];exact H)|exact H
 have Ny174:=am hy174
 clear hy174
 obtain ⟨y177,hy177⟩:∃ y_:List ByteArray,y_=(([]:List ByteArray)):=⟨_,rfl⟩
 replace H:(impl_areShards.l0 k a1 y174 y177 l0 (l0.length:Int) 0)=some r:=by first|(rw [hy177];with_reducible exact H)|(have H2_:=(Option.bind_some _ _).symm.trans H;rw [hy177];with_reducible exact H2_)|(have H2_:=(Option.bind_some _ _).symm.trans H;with_reducible exact H2_)|with_reducible exact H|(rw [hy177];exact H)|exact H
 have Ny177:=am hy177
 clear hy177
 have H':=am H
 clear H
 go_enter Try.func76,Try.ntmps76
 go_wp2_with (first|((with_reducible refine gate_dst (N:=9) rfl ?_);refine Kd.R_lit (Kd.int .i64) _ 3 ?hg (N:=9) ?hd (xs:=([]:List Int)) (inner:=[]) (ok:=fun _=>True) (okp:=fun _=>True) ?hr ?hp (fun _ hk=>hk) trivial (Below.refl _ _) (Nat.le_refl _) d24 ?_;(case hd=>rfl);(case hg=>rfl);(case hr=>first|(go_simp;done)|(go_simp;rfl));(case hp=>exact (Reps.none _ _));intro v175 w3 ho4 hb hg_ hnew_;clear hg_ hnew_;(first|rw [← Ny174.out] at ho4|(simp only [Int.reduceToNat] at ho4;rw [← Ny174.out] at ho4));have n0_:=am (Kd.R_lower ho4 (pz d0));have n1_:=am (pu d0 hb);clear HB;have HO176:=n0_;have HB:=n1_;clear n0_ n1_;clear hb ho4)|((with_reducible refine gate_dst (N:=10) rfl ?_);refine Kd.R_lit Kd.string _ 9 ?hg (N:=10) ?hd (xs:=([]:List ByteArray)) (inner:=[]) (ok:=fun _=>True) (okp:=fun _=>True) ?hr ?hp (fun _ hk=>hk) trivial (Below.refl _ _) (Nat.le_refl _) d24 ?_;(case hd=>rfl);(case hg=>rfl);(case hr=>first|(go_simp;done)|(go_simp;rfl));(case hp=>exact (Reps.none _ _));intro v178 w5 ho6 hb hg_ hnew_;clear hg_ hnew_;(first|rw [← Ny177.out] at ho6|(simp only [Int.reduceToNat] at ho6;rw [← Ny177.out] at ho6));have n0_:=am (Kd.R_below (by (with_reducible repeat (first|apply Kd.R_alloc|apply Kd.R_drewN|apply Kd.R_drew));exact HO176.out) hb);have n1_:=am (Kd.R_lower ho6 (pz d0));have n2_:=am (pu d0 hb);clear HO176;clear HB;have HO176:=n0_;have HO179:=n1_;have HB:=n2_;clear n0_ n1_ n2_;clear hb ho6))
 go_loopg [5,6,13] k (fun kq v5 v6 v13 w'=>∃ (x5_1:List Int) (x6_1:List ByteArray) (x13_1:Int),v13 = .int .i64 x13_1∧Aside0 (impl_areShards.l0 kq a1 x5_1 x6_1 l0 (l0.length:Int) x13_1=some r)∧Aside0 (kq≤k)∧Aside0 (Kd.R (Kd.int .i64) 3 w' w.heap.size (fun _=>True) v5 x5_1)∧Aside0 (Kd.R Kd.string 9 w' w.heap.size (fun _=>True) v6 x6_1)∧Aside0 (Below w.heap.size w w'))
 case atStart=>exact ⟨(y174),(y177),(0),d4,H',⟨Nat.le_refl _⟩,⟨by (with_reducible repeat (first|apply Kd.R_alloc|apply Kd.R_drewN|apply Kd.R_drew));exact HO176.out⟩,⟨by (with_reducible repeat (first|apply Kd.R_alloc|apply Kd.R_drewN|apply Kd.R_drew));exact HO179.out⟩,⟨d0⟩⟩
 case round =>
  clear H'
  try clear p2
  obtain ⟨x5_1,x6_1,x13_1,rfl,HA,HK1,HO_5,HO_6,HB⟩:=hrel
  cases gk with
  | zero=>exact absurd HA.out (by simp [impl_areShards.l0])
  | succ k1 =>
   have H:=HA.out
   clear HA
   simp only [impl_areShards.l0] at H
   by_cases c7:x13_1 < (l0.length:Int)
   ·rw [if_pos c7] at H
    have c7b0:decide (x13_1 < (l0.length:Int))=true:=decide_eq_true c7
    clear c7
    by_cases c8:0≤x13_1
    ·rw [if_pos c8] at H
     have c8b0:decide (0≤x13_1)=true:=decide_eq_true c8
     clear c8
     by_cases c9:x13_1 < (l0.length:Int)
     ·rw [if_pos c9] at H
      have c9b0:decide (x13_1 < (l0.length:Int))=true:=decide_eq_true c9
      clear c9
      by_cases c10:x5_1.length < 17592186044416
      ·rw [if_pos c10] at H
       have LMc10:=am c10
       clear c10
       obtain ⟨y182,hy182⟩:∃ y_:List Int,y_=(x5_1 ++ [(rd_T48 l0 x13_1).f0]):=⟨_,rfl⟩
       replace H:(if x6_1.length < 8796093022208 then (impl_areShards.l0 k1 a1 y182 (x6_1 ++ [(rd_T48 l0 x13_1).f1]) l0 (l0.length:Int) (wrap64 (x13_1+1))) else (none))=some r:=by first|(rw [hy182];with_reducible exact H)|(have H2_:=(Option.bind_some _ _).symm.trans H;rw [hy182];with_reducible exact H2_)|(have H2_:=(Option.bind_some _ _).symm.trans H;with_reducible exact H2_)|with_reducible exact H|(rw [hy182];exact H)|exact H
       have Ny182:=am hy182
       clear hy182
       by_cases c11:x6_1.length < 8796093022208
       ·rw [if_pos c11] at H
        have LMc11:=am c11
        clear c11
        obtain ⟨y185,hy185⟩:∃ y_:List ByteArray,y_=(x6_1 ++ [(rd_T48 l0 x13_1).f1]):=⟨_,rfl⟩
        replace H:(impl_areShards.l0 k1 a1 y182 y185 l0 (l0.length:Int) (wrap64 (x13_1+1)))=some r:=by first|(rw [hy185];with_reducible exact H)|(have H2_:=(Option.bind_some _ _).symm.trans H;rw [hy185];with_reducible exact H2_)|(have H2_:=(Option.bind_some _ _).symm.trans H;with_reducible exact H2_)|with_reducible exact H|(rw [hy185];exact H)|exact H
        have Ny185:=am hy185
        clear hy185
        have H':=am H
        clear H
        have p180:0≤(x13_1:Int):=od d3
        have q180:x13_1 < (l0.length:Int):=od d3
        obtain ⟨ad180,e180,hx180_0,hx180_1⟩:=at_T48 HR0.out x13_1 p180 q180
        cases e180
        replace hx180_0:=(HB.out.cell (World.block_lt_of_cell? w _ hx180_0)).trans hx180_0
        replace hx180_1:=(HB.out.cell (World.block_lt_of_cell? w _ hx180_1)).trans hx180_1
        replace p180:=eq_true p180
        replace q180:=eq_true q180
        go_wp2_with (first|((with_reducible refine gate_dst (N:=8) rfl ?_);refine box_event ?hg (N:=8) ?hd (cs:=#[.int .i64 0, .string (⟨#[]⟩:ByteArray)]) (t:=48) ?hr ?_;(case hd=>rfl);(case hg=>rfl);(case hr=>first|(go_simp;done)|(go_simp;rfl));intro gb181 hg w12 hbox hb;have n0_:=am (Kd.R_below d10 hb);have n1_:=am (Kd.R_below d6 hb);have n2_:=am (pu d0 hb);have n3_:=am (hbox);have n4_:=am ((by rw [hg];exact (pz d0):w.heap.size≤gb181));have n5_:=n4_;clear HO_5;clear HO_6;clear HB;have HO_5:=n0_;have HO_6:=n1_;have HB:=n2_;have BK181:=n3_;have GW181:=n4_;have GE181:=n5_;clear n0_ n1_ n2_ n3_ n4_ n5_;clear hb hbox hg;have hcz13_0:w12.cell? ⟨gb181,0,none⟩=some (.int .i64 0):=(blk_cell BK181.out 0).trans rfl;have hcz13_1:w12.cell? ⟨gb181,1,none⟩=some (.string (⟨#[]⟩:ByteArray)):=(blk_cell BK181.out 1).trans rfl;have hfz13_0:=blk_frozen BK181.out 0;have hfz13_1:=blk_frozen BK181.out 1)|((with_reducible refine gate_builtin (b:=.append) (xs:=#[.tmp 17, .tmp 20]) rfl ?_);at_builtin;refine Kd.R_append (Kd.int .i64) (w0:=w) w.heap.size rfl (.tmp 17) (.tmp 20) 62 3 (.int .i64 0) 8 rfl Try.underlying62 info3 rfl d12 d16 u5 x5_1 ((rd_T48 l0 x13_1).f0) [.int .i64 ((rd_T48 l0 x13_1).f0)] (fun _=>True) (fun _=>False) rfl (by first|(go_simp;done)|(go_simp;rfl)) ?aP (fun _ hk=>hk.elim) ?aF ?aO ?aB ?aS ?aL ?_;(case aP=>exact rfl);(case aB=>exact (by repeat (first|(with_reducible first|exact HB.out|apply pa|apply pb|apply pd|refine pt ?_ GE181.out)|exact HB.out)));(case aF=>exact (fun _ _=>trivial));(case aO=>exact (by (with_reducible repeat (first|apply Kd.R_alloc|apply Kd.R_drewN|apply Kd.R_drew));exact Kd.R_mono (Kd.R_far (p:=⟨gb181,1,none⟩) (Kd.R_far (p:=⟨gb181,0,none⟩) (Kd.R_types HO_5.out BK181.out d12) (fun _ hk=>hk.2) (.int .i64 ((rd_T48 l0 x13_1).f0))) (fun _ hk=>hk.2) (.string ((rd_T48 l0 x13_1).f1))) (fun _ hk=>trivial)));(case aS=>exact (pz (by repeat (first|(with_reducible first|exact HB.out|apply pa|apply pb|apply pd|refine pt ?_ GE181.out)|exact HB.out))));(case aL=>have:=LMc10.out;omega);intro v183 w14 ho hb hg hat;rw [← Ny182.out] at ho;have n0_:=am (Kd.R_over' (by (with_reducible repeat (first|apply Kd.R_alloc|apply Kd.R_drewN|apply Kd.R_drew));exact (Kd.R_mono (Kd.R_far (p:=⟨gb181,1,none⟩) (Kd.R_far (p:=⟨gb181,0,none⟩) (Kd.R_types HO_6.out BK181.out d12) (fun _ hk=>hk.2) (.int .i64 ((rd_T48 l0 x13_1).f0))) (fun _ hk=>hk.2) (.string ((rd_T48 l0 x13_1).f1))) (fun _ h_=>h_.1))) (Kd.R_typed (by (with_reducible repeat (first|apply Kd.R_alloc|apply Kd.R_drewN|apply Kd.R_drew));exact (Kd.R_mono (Kd.R_far (p:=⟨gb181,1,none⟩) (Kd.R_far (p:=⟨gb181,0,none⟩) (Kd.R_types HO_5.out BK181.out d12) (fun _ hk=>hk.2) (.int .i64 ((rd_T48 l0 x13_1).f0))) (fun _ hk=>hk.2) (.string ((rd_T48 l0 x13_1).f1))) (fun _ h_=>h_.1)))) d12 hg);have n1_:=am (blk_grown (g:=gb181) (o:=.cells #[.int .i64 ((rd_T48 l0 x13_1).f0), .string ((rd_T48 l0 x13_1).f1)] 48 (0,0)) (by (with_reducible repeat (first|refine qn ?_ _|refine qd ?_|refine qa ?_ _));refine blk_put (cs:=#[.int .i64 ((rd_T48 l0 x13_1).f0), .string (⟨#[]⟩:ByteArray)]) ?_ 1 _ rfl;(with_reducible repeat (first|refine qn ?_ _|refine qd ?_|refine qa ?_ _));refine blk_put (cs:=#[.int .i64 0, .string (⟨#[]⟩:ByteArray)]) ?_ 0 _ rfl;(with_reducible repeat (first|refine qn ?_ _|refine qd ?_|refine qa ?_ _));exact BK181.out) hg (Kd.R_ne HO_5.out BK181.out d12));have n2_:=am (hb);have n3_:=am (ho);clear HO_6;clear BK181;clear HB;clear HO_5;have HO_6:=n0_;have BK181:=n1_;have HB:=n2_;have HO184:=n3_;clear n0_ n1_ n2_ n3_;clear ho hb hg hat;have hcz15_0:w14.cell? ⟨gb181,0,none⟩=some (.int .i64 ((rd_T48 l0 x13_1).f0)):=(blk_cell BK181.out 0).trans rfl;have hcz15_1:w14.cell? ⟨gb181,1,none⟩=some (.string ((rd_T48 l0 x13_1).f1)):=(blk_cell BK181.out 1).trans rfl;have hfz15_0:=blk_frozen BK181.out 0;have hfz15_1:=blk_frozen BK181.out 1)|((with_reducible refine gate_builtin (b:=.append) (xs:=#[.tmp 22, .tmp 25]) rfl ?_);at_builtin;refine Kd.R_append Kd.string (w0:=w) w.heap.size rfl (.tmp 22) (.tmp 25) 154 9 (.string ⟨#[]⟩) 16 rfl Try.underlying154 info9 rfl d12 d16 u6 x6_1 ((rd_T48 l0 x13_1).f1) [.string ((rd_T48 l0 x13_1).f1)] (fun _=>True) (fun _=>False) rfl rfl ?aP (fun _ hk=>hk.elim) ?aF ?aO ?aB ?aS ?aL ?_;(case aP=>exact rfl);(case aB=>exact (by repeat (first|(with_reducible first|exact HB.out|apply pa|apply pb|apply pd|refine pt ?_ GE181.out)|exact HB.out)));(case aF=>exact (fun _ _=>trivial));(case aO=>exact d6);(case aS=>exact (pz (by repeat (first|(with_reducible first|exact HB.out|apply pa|apply pb|apply pd|refine pt ?_ GE181.out)|exact HB.out))));(case aL=>have:=LMc11.out;omega);intro v186 w16 ho hb hg hat;rw [← Ny185.out] at ho;have n0_:=am (blk_grown (g:=gb181) (o:=.cells #[.int .i64 ((rd_T48 l0 x13_1).f0), .string ((rd_T48 l0 x13_1).f1)] 48 (0,0)) (by (with_reducible repeat (first|refine qn ?_ _|refine qd ?_|refine qa ?_ _));exact BK181.out) hg (Kd.R_ne HO_6.out BK181.out d12));have n1_:=am (Kd.R_over' (by (with_reducible repeat (first|apply Kd.R_alloc|apply Kd.R_drewN|apply Kd.R_drew));exact HO184.out) (Kd.R_typed d6) d12 hg);have n2_:=am (hb);have n3_:=am (ho);clear BK181;clear HO184;clear HB;clear HO_6;have BK181:=n0_;have HO184:=n1_;have HB:=n2_;have HO187:=n3_;clear n0_ n1_ n2_ n3_;clear ho hb hg hat))
        go_roundg k1
        case measure=>have:=HK1.out;omega
        case rel=>exact ⟨(y182),(y185),(wrap64 (x13_1+1)),d4,H',⟨d26⟩,⟨by (with_reducible repeat (first|apply Kd.R_alloc|apply Kd.R_drewN|apply Kd.R_drew));exact HO184.out⟩,⟨by (with_reducible repeat (first|apply Kd.R_alloc|apply Kd.R_drewN|apply Kd.R_drew));exact HO187.out⟩,⟨by repeat (first|(with_reducible first|exact HB.out|apply pa|apply pb|apply pd|refine pt ?_ GE181.out)|exact HB.out)⟩⟩
       rw [if_neg c11] at H
       exact absurd H d24
      rw [if_neg c10] at H
      exact absurd H d24
     rw [if_neg c9] at H
     exact absurd H d24
    rw [if_neg c8] at H
    exact absurd H d24
   rw [if_neg c7] at H
   have c7b0:decide (x13_1 < (l0.length:Int))=false:=decide_eq_false c7
   clear c7
   replace H:=Option.bind_eq_some_iff.mp H
   obtain ⟨t188,A170,H⟩:=H
   replace H:(if t188=true then ((impl_areEqual.f x6_1).bind fun t189=>(some t189)) else (some false))=some r:=H
   have A17:=am A170
   clear A170
   by_cases c18:t188=true
   ·subst c18
    have H1:((impl_areEqual.f x6_1).bind fun t189=>(some t189))=some r:=by rw [if_pos rfl] at H;exact H
    clear H
    have H:=H1
    clear H1
    replace H:=Option.bind_eq_some_iff.mp H
    obtain ⟨t189,A190,H⟩:=H
    replace H:(some t189)=some r:=H
    have A19:=am A190
    clear A190
    obtain rfl:=Option.some.inj H
    obtain ⟨Ao20,co20,eo20⟩:=Kd.R_slice HO_5.out
    subst eo20
    go_wp2_with (first|((with_reducible refine gate_callee (f:=91) rfl ?_);refine goesL_ (some 30) rfl rfl Try.func91 d5 rfl #[.slice Ao20 x5_1.length co20, .int .i64 a1] rfl d1 ?_;(with_reducible refine (impl_isIncreasing.calls k1 _ _ x5_1 a1 true _ ?side1 ?side2 A17.out).mono ?_);(case side1=>repeat (first|exact (Kd.R_reads' HO_5.out).2.2|(with_reducible refine Kd.C_alloc ?_ _)|(with_reducible refine Kd.C_drewN ?_ _)|(with_reducible refine Kd.C_drew ?_)));(case side2=>exact (Kd.R_reads' HO_5.out).2.1);rintro e w' ⟨rfl,⟨nd,rfl⟩⟩;refine ⟨_,rfl,?_⟩;obtain ⟨Ao21,co21,eo21⟩:=Kd.R_slice HO_6.out;subst eo21)|(go_at_call 133;(with_reducible refine (impl_areEqual.calls _ _ x6_1 t189 _ ?side1 ?side2 A19.out).mono ?_);(case side1=>repeat (first|exact (Kd.R_reads' HO_6.out).2.2|(with_reducible refine Kd.C_alloc ?_ _)|(with_reducible refine Kd.C_drewN ?_ _)|(with_reducible refine Kd.C_drew ?_)));(case side2=>exact (Kd.R_reads' HO_6.out).2.1);rintro e w22 ⟨rfl,hb⟩;have n0_:=am (Kd.R_below d10 hb);have n1_:=am (Kd.R_below d6 hb);have n2_:=am (pu d0 hb);clear HO_5;clear HO_6;clear HB;have HO_5:=n0_;have HO_6:=n1_;have HB:=n2_;clear n0_ n1_ n2_;(try clear hb);(try clear hb2);(try clear hk);(try clear hi)))
    go_ret
    exact ⟨d2,d0⟩
   replace c18:=Bool.eq_false_iff.mpr c18
   subst c18
   have H1:(some false)=some r:=by rw [if_neg (show ¬ (false=true) by decide)] at H;exact H
   clear H
   have H:=H1
   clear H1
   obtain rfl:=Option.some.inj H
   obtain ⟨Ao23,co23,eo23⟩:=Kd.R_slice HO_5.out
   subst eo23
   go_wp2_with (first|((with_reducible refine gate_callee (f:=91) rfl ?_);refine goesL_ (some 30) rfl rfl Try.func91 d5 rfl #[.slice Ao23 x5_1.length co23, .int .i64 a1] rfl d1 ?_;(with_reducible refine (impl_isIncreasing.calls k1 _ _ x5_1 a1 false _ ?side1 ?side2 A17.out).mono ?_);(case side1=>repeat (first|exact (Kd.R_reads' HO_5.out).2.2|(with_reducible refine Kd.C_alloc ?_ _)|(with_reducible refine Kd.C_drewN ?_ _)|(with_reducible refine Kd.C_drew ?_)));(case side2=>exact (Kd.R_reads' HO_5.out).2.1);rintro e w' ⟨rfl,⟨nd,rfl⟩⟩;refine ⟨_,rfl,?_⟩))
   go_ret
   exact ⟨d2,d0⟩

def impl_Local_all.f (a0_0:Int) (a0_1:Int) (a0_2:Int):Option (Int):=(impl_Local_data.f a0_0 a0_1 a0_2).bind fun t191=>(some (wrap64 ((wrap64 (t191+a0_0))+a0_2)))
def impl_Local_all.T1:Bool × List (List Nat × List Nat):=(true,[([],[]),([0],[0]),([],[]),([2],[2]),([1,3],[1,3]),([],[]),([5],[5]),([4,6],[4,6]),([7,1,0,1,2,3,4,5,6,7],[7])])
def impl_Local_all.B1:List Nat:=[0,1,0,4,15,0,32,127,255]
theorem impl_Local_all.tab1:rtab .any (opsOf Try.f77 1)=impl_Local_all.T1:=by kernel_rfl
theorem impl_Local_all.bits1:waitsOk impl_Local_all.T1.2 impl_Local_all.B1=true:=by kernel_rfl
theorem impl_Local_all.calls (a0_0:Int) (a0_1:Int) (a0_2:Int) (r:Int) (w:World) (h:impl_Local_all.f a0_0 a0_1 a0_2=some r) :
  Calls Try.prog 77 #[.agg #[.int .i64 a0_0, .int .i64 a0_1, .int .i64 a0_2]] w fun e w'=>e = .returned (.int .i64 r)∧Below w.heap.size w w':=by
 have hu51:=Try.underlying51
 have HB:=am (Below.refl w.heap.size w)
 have H:((impl_Local_data.f a0_0 a0_1 a0_2).bind fun t191=>(some (wrap64 ((wrap64 (t191+a0_0))+a0_2))))=some r:=h
 clear h
 replace H:=Option.bind_eq_some_iff.mp H
 obtain ⟨t191,A20,H⟩:=H
 replace H:(some (wrap64 ((wrap64 (t191+a0_0))+a0_2)))=some r:=H
 have A2:=am A20
 clear A20
 obtain rfl:=Option.some.inj H
 go_enter Try.func77,Try.ntmps77
 try go_wp2_with (first|((with_reducible refine gate_dst (N:=1) rfl ?_);refine box_event ?hg (N:=1) ?hd (cs:=#[.int .i64 a0_0, .int .i64 a0_1, .int .i64 a0_2]) (t:=51) ?hr ?_;(case hd=>rfl);(case hg=>rfl);(case hr=>first|(go_simp;done)|(go_simp;rfl));intro gb190 hg w3 hbox hb;have n0_:=am (pu d0 hb);have n1_:=am (hbox);have n2_:=am ((by rw [hg];exact (pz d0):w.heap.size≤gb190));have n3_:=n2_;clear HB;have HB:=n0_;have BK190:=n1_;have GW190:=n2_;have GE190:=n3_;clear n0_ n1_ n2_ n3_;clear hb hbox hg))
 have n0_:=am (qd BK190.out)
 have n1_:=am (pd HB.out)
 clear BK190
 clear HB
 have BK190:=n0_
 have HB:=n1_
 clear n0_ n1_
 refine rS (n:=9) (S:=fun w'=>w'.cell? ⟨gb190,0,none⟩=some (.int .i64 a0_0)∧w'.cell? ⟨gb190,1,none⟩=some (.int .i64 a0_1)∧w'.cell? ⟨gb190,2,none⟩=some (.int .i64 a0_2)) (ds:=[]) [(2,5),(5,8),(0,3),(3,6),(6,9),(1,0),(4,7),(7,10),(8,2)] d5 rfl impl_Local_all.tab1 impl_Local_all.bits1 ⟨(blk_cell BK190.out 0).trans rfl,(blk_cell BK190.out 1).trans rfl,(blk_cell BK190.out 2).trans rfl⟩ (fun hHeld HT_ HW_=>?_)
 generalize w3.drew=w4 at BK190 HB hHeld ⊢
 refine rR ?_
 refine rO (N:=some 4) HT_ rfl rfl d5 d12 (fun K hK=>?_)
 refine goes_ Try.func132 d5 rfl #[.agg #[.int .i64 a0_0, .int .i64 a0_1, .int .i64 a0_2]] d28 rfl rfl d1 ?_
 with_reducible refine (impl_Local_data.calls a0_0 a0_1 a0_2 t191 _ A2.out).mono ?_
 rintro e w5 ⟨rfl,hb⟩
 refine ⟨_,rfl,?_⟩
 have n0_:=am (qb (g:=gb190) (o:=.cells #[.int .i64 a0_0, .int .i64 a0_1, .int .i64 a0_2] 51 (0,0)) (by (with_reducible repeat (first|refine qn ?_ _|refine qd ?_|refine qa ?_ _));exact BK190.out) hb)
 have n1_:=am (pu (by repeat (first|(with_reducible first|exact HB.out|apply pa|apply pb|apply pd|refine pt ?_ GE190.out)|exact HB.out)) hb)
 clear BK190
 clear HB
 have BK190:=n0_
 have HB:=n1_
 clear n0_ n1_
 (try clear hb)
 (try clear hb2)
 (try clear hk)
 (try clear hi)
 refine hK.out _ _ ⟨(blk_cell BK190.out 0).trans rfl,(blk_cell BK190.out 1).trans rfl,(blk_cell BK190.out 2).trans rfl⟩ (fun hHeld=>?_)
 clear hK K
 refine rN (a':=?_) ?_ ?_
 rotate_left
 ·show Act.put _ (some 4) _=_
  simp only [Act.put,q1,q2,q3,i64_w,i32_w]
  rfl
 refine rR ?_
 refine rD HT_ d5 ?_
 try go_wp2
 go_ret
 exact ⟨d2,by repeat (first|(with_reducible first|exact HB.out|apply pa|apply pb|apply pd|refine pt ?_ GE190.out)|exact HB.out)⟩

-- NOT PRINTED: function 78 (impl_Shard)

end Go.Proofs.Yteflgifmdojahaa.PFnExactMendLocal
-- HALVED
-- SQUEEZED
-- SQUEEZED2
-- SQUEEZED3
-- SQUEEZED4
-- SQUEEZED5
-- SQUEEZED6
