-- Laid by a program of this session.
import Derived.Test.YtajikfnpcobnpaaPFnExactRebuildShardx0
import Derived.Test.YtajikfnpcobnpaaPFnExactRebuildShardx1
import Derived.Test.YtajikfnpcobnpaaPFnExactRebuildShardx2
import Derived.Test.YtajikfnpcobnpaaPFnExactRebuildShardx3
import Derived.Test.YtajikfnpcobnpaaPFnExactRebuildShardx6
import Derived.Test.YtajikfnpcobnpaaPFnExactRebuildShardx7
import Derived.Test.YtajikfnpcobnpaaPFnExactRebuildShardx8
namespace Go.Proofs.Ytajikfnpcobnpaa.PFnExactRebuildShard
open Go.RowKit Go.Proofs.YtajikfnpcobnpaaW.PrintWords Go.Proofs.YtajikfnpcobnpaaW.PrintLast Go.Proofs.YtajikfnpcobnpaaW.PrintMore
attribute [local go_sem] max2_int min2_int max_two min_two max_three min_three max_four min_four   -- for this text's walks alone
set_option linter.unusedVariables false
set_option linter.unusedSimpArgs false

def spec_l3Matrix.f (k : Nat) (a0 : Int) (a1 : Int) : Option ((List (List Int))):=(spec_l2Identity.f k a0).bind fun t200=>((spec_l2Cauchy.f k a1 a0).bind fun t204=>(if t200.length+t204.length < 5864062014805 then (some (t200 ++ t204)) else (none)))
theorem spec_l3Matrix.mono : ∀ a0 a1 k,LeO (spec_l3Matrix.f k a0 a1) (spec_l3Matrix.f (k+1) a0 a1):=by
 intro a0 a1 k
 unfold spec_l3Matrix.f
 repeat' first
   | (with_reducible exact spec_l2Cauchy.mono _ _ _)
   | (with_reducible exact spec_l2Identity.mono _ _)
   | (with_reducible exact LeO.refl _)
   | (with_reducible exact LeO.none _)
   | (with_reducible refine LeO.ite ?_ ?_)
   | (with_reducible refine LeO.bind ?_ (fun _=>?_))
   | exact spec_l2Cauchy.mono _ _ _
   | exact spec_l2Identity.mono _ _
   | exact LeO.none _
   | refine LeO.ite ?_ ?_
   | refine LeO.bind ?_ (fun _=>?_)
def spec_l3Matrix.T2 : Bool × List (List Nat × List Nat):=(true,[([],[]),([0],[0]),([],[]),([],[]),([2,3],[2,3]),([4],[4]),([1,5,4],[1,5]),([0,1,2,3,4,5,6],[]),([7,6,6,0,1,2,3,4,5,6],[6,7])])
def spec_l3Matrix.B2 : List Nat:=[0,1,0,0,12,28,63,127,255]
theorem spec_l3Matrix.tab2 : rtab .any (opsOf Try.f135 2)=spec_l3Matrix.T2:=by kernel_rfl
theorem spec_l3Matrix.bits2 : waitsOk spec_l3Matrix.T2.2 spec_l3Matrix.B2=true:=by kernel_rfl
set_option maxHeartbeats 8000000 in
set_option maxRecDepth 100000 in
theorem spec_l3Matrix.calls (k : Nat) (a0 : Int) (a1 : Int) (r : List (List Int)) (w : World) (h : spec_l3Matrix.f k a0 a1=some r) :
  Calls Try.prog 135 #[.int .i64 a0, .int .i64 a1] w fun e w'=>∃ v0_ : Value,e = .returned (.agg #[v0_])∧Kd.N (Kd.slice 5 (Kd.int .u8)) 57 w' w.heap.size (fun k_=>(w.heap.size≤k_)) v0_ r∧Below w.heap.size w w':=by
 have hu43:=Try.underlying43
 have HB:=am (Below.refl w.heap.size w)
 have hfd : ∀ (A : Option Addr) (n c : Nat) (w' : World),(Instr.field 43 (.agg #[.slice A n c]) 0).run Try.prog w' = .ok (.slice A n c) w':=fun A n c w'=>by kernel_rfl
 have H : ((spec_l2Identity.f k a0).bind fun t200=>((spec_l2Cauchy.f k a1 a0).bind fun t204=>(if t200.length+t204.length < 5864062014805 then (some (t200 ++ t204)) else (none))))=some r:=h
 clear h
 replace H:=Option.bind_eq_some_iff.mp H
 obtain ⟨t200,A30,H⟩:=H
 replace H : ((spec_l2Cauchy.f k a1 a0).bind fun t204=>(if t200.length+t204.length < 5864062014805 then (some (t200 ++ t204)) else (none)))=some r:=H
 have A3:=am A30
 clear A30
 replace H:=Option.bind_eq_some_iff.mp H
 obtain ⟨t204,A40,H⟩:=H
 replace H : (if t200.length+t204.length < 5864062014805 then (some (t200 ++ t204)) else (none))=some r:=H
 have A4:=am A40
 clear A40
 by_cases c5 : t200.length+t204.length < 5864062014805
 ·rw [if_pos c5] at H
  have LMc5:=am c5
  clear c5
  obtain ⟨y207,hy207⟩ : ∃ y_ : List (List Int),y_=(t200 ++ t204):=⟨_,rfl⟩
  replace H : (some y207)=some r:=by first|(rw [hy207];with_reducible exact H)|(have H2_:=(Option.bind_some _ _).symm.trans H;rw [hy207];with_reducible exact H2_)|(have H2_:=(Option.bind_some _ _).symm.trans H;with_reducible exact H2_)|with_reducible exact H|(rw [hy207];exact H)|exact H
  have Ny207:=am hy207
  clear hy207
  obtain rfl:=Option.some.inj H
  go_enter Try.func135,Try.ntmps135
  try go_wp2_with (first|((with_reducible refine gate_dst (N:=4) rfl ?_);refine box_event ?hg (N:=4) ?hd (cs:=#[.slice none 0 0]) (t:=43) ?hr ?_;(case hd=>rfl);(case hg=>rfl);(case hr=>first|(go_simp;done)|(go_simp;rfl));intro gb199 hg w6 hbox hb;have n0_:=am (pu (by repeat (first|(with_reducible first|exact HB.out|apply pa|apply pb|apply pd)|exact HB.out)) hb);have n1_:=am (hbox);have n2_:=am ((by rw [hg];exact (pz (by repeat (first|(with_reducible first|exact HB.out|apply pa|apply pb|apply pd)|exact HB.out))) : w.heap.size≤gb199));have n3_:=am ((by rw [hg];exact (pz (by repeat (first|(with_reducible first|exact HB.out|apply pa|apply pb|apply pd)|exact HB.out))) : w.heap.size≤gb199));clear HB;have HB:=n0_;have BK199:=n1_;have GW199:=n2_;have GE199:=n3_;clear n0_ n1_ n2_ n3_;clear hb hbox hg)|((with_reducible refine gate_callee (f:=176) rfl ?_);refine goesL_ (some 7) rfl rfl Try.func176 (by kernel_rfl) rfl #[.int .i64 a0] rfl (by (try simp only [List.map_toArray,List.map_cons,List.map_nil]);first|done|rfl|(simp only [List.length_drop,List.length_take];rfl)) ?_;(with_reducible refine (spec_l2Identity.calls k a0 t200 _ A3.out).mono ?_);rintro e w7 ⟨v201,rfl,ho0,hb⟩;refine ⟨_,rfl,?_⟩;have n0_:=am (Kd.N_lower (Kd.N_mono (ok':=fun k_=>(w.heap.size≤k_)∧k_ ≠ gb199) (Kd.S_N (Kd.S_bound ho0)) (fun k_ hk_=>⟨(Nat.le_trans (pz (by repeat (first|(with_reducible first|exact HB.out|apply pa|apply pb|apply pd|refine pt ?_ GE199.out)|exact HB.out))) hk_.2.1),(Kd.freshB (g:=gb199) (o:=.cells #[.slice none 0 0] 43 (0,0)) (by (with_reducible repeat (first|refine qn ?_ _|refine qd ?_|refine qa ?_ _));exact BK199.out) k_ hk_.2.1)⟩)) (pz (by repeat (first|(with_reducible first|exact HB.out|apply pa|apply pb|apply pd|refine pt ?_ GE199.out)|exact HB.out))));have n1_:=am (qb (g:=gb199) (o:=.cells #[.slice none 0 0] 43 (0,0)) (by (with_reducible repeat (first|refine qn ?_ _|refine qd ?_|refine qa ?_ _));exact BK199.out) hb);have n2_:=am (pu (by repeat (first|(with_reducible first|exact HB.out|apply pa|apply pb|apply pd|refine pt ?_ GE199.out)|exact HB.out)) hb);clear BK199;clear HB;have HO202:=n0_;have BK199:=n1_;have HB:=n2_;clear n0_ n1_ n2_;(try clear hb);(try clear hb2);(try clear hk);(try clear hi);(try clear ho0))|((with_reducible refine gate_dst (N:=5) rfl ?_);refine box_event ?hg (N:=5) ?hd (cs:=#[.slice none 0 0]) (t:=43) ?hr ?_;(case hd=>rfl);(case hg=>rfl);(case hr=>first|(go_simp;done)|(go_simp;rfl));intro gb203 hg w8 hbox hb;have n0_:=am (Kd.N_below (Kd.N_elderB (by (with_reducible repeat (first|apply Kd.N_alloc|apply Kd.N_drewN|apply Kd.N_drew));exact HO202.out) gb203 (Nat.le_of_eq hg.symm)) hb);have n1_:=am (qb (g:=gb199) (o:=.cells #[.slice none 0 0] 43 (0,0)) (by (with_reducible repeat (first|refine qn ?_ _|refine qd ?_|refine qa ?_ _));exact BK199.out) hb);have n2_:=am (pu (by repeat (first|(with_reducible first|exact HB.out|apply pa|apply pb|apply pd|refine pt ?_ GE199.out)|exact HB.out)) hb);have n3_:=am (hbox);have n4_:=am ((by rw [hg];exact (pz (by repeat (first|(with_reducible first|exact HB.out|apply pa|apply pb|apply pd|refine pt ?_ GE199.out)|exact HB.out))) : w.heap.size≤gb203));have n5_:=am ((by rw [hg];exact (pz (by repeat (first|(with_reducible first|exact HB.out|apply pa|apply pb|apply pd|refine pt ?_ GE199.out)|exact HB.out))) : w.heap.size≤gb203));have n6_:=am ((by rw [hg];exact Nat.ne_of_lt (blk_lt (g:=gb199) (o:=.cells #[.slice none 0 0] 43 (0,0)) (by (with_reducible repeat (first|refine qn ?_ _|refine qd ?_|refine qa ?_ _));exact BK199.out)) : gb199 ≠ gb203));have n7_:=am ((by rw [hg];exact Nat.ne_of_gt (blk_lt (g:=gb199) (o:=.cells #[.slice none 0 0] 43 (0,0)) (by (with_reducible repeat (first|refine qn ?_ _|refine qd ?_|refine qa ?_ _));exact BK199.out)) : gb203 ≠ gb199));clear HO202;clear BK199;clear HB;have HO202:=n0_;have BK199:=n1_;have HB:=n2_;have BK203:=n3_;have GW203:=n4_;have GE203:=n5_;have NB199_203:=n6_;have NB203_199:=n7_;clear n0_ n1_ n2_ n3_ n4_ n5_ n6_ n7_;clear hb hbox hg;obtain ⟨Ao9,co9,eo9⟩:=Kd.N_slice HO202.out;subst eo9;have hnb10:=NB203_199.out;have hnc10:=NB199_203.out;have hcz11_0 : w8.cell? ⟨gb203,0,none⟩=some (.slice none 0 0):=(blk_cell BK203.out 0).trans rfl;have hfz11_0:=blk_frozen BK203.out 0))
  have n0_ : Aside0 (Kd.N (Kd.slice 5 (Kd.int .u8)) 57 (w8.setCell ⟨gb203,0,none⟩ (.slice Ao9 t200.length co9)) w.heap.size (fun k_=>(w.heap.size≤k_)∧k_ ≠ gb199∧k_ ≠ gb203) (.slice Ao9 t200.length co9) t200):=⟨by (with_reducible repeat (first|apply Kd.N_alloc|apply Kd.N_drewN|apply Kd.N_drew));exact Kd.N_mono (Kd.N_far (p:=⟨gb203,0,none⟩) (Kd.N_mono HO202.out (fun k_ hk=>(⟨hk,hk.2⟩ : _∧k_ ≠ gb203))) (fun _ hk=>hk.2) (.slice Ao9 t200.length co9)) (fun _ hk=>⟨hk.1.1.1,⟨hk.1.1.2,hk.1.2⟩⟩)⟩
  have n1_ : Aside0 ((w8.setCell ⟨gb203,0,none⟩ (.slice Ao9 t200.length co9)).heap[gb199]? = some (.cells #[.slice none 0 0] 43 (0,0))):=⟨by (with_reducible repeat (first|refine qn ?_ _|refine qd ?_|refine qa ?_ _));refine blk_far ?_ NB199_203.out _;(with_reducible repeat (first|refine qn ?_ _|refine qd ?_|refine qa ?_ _));exact BK199.out⟩
  have n2_ : Aside0 ((w8.setCell ⟨gb203,0,none⟩ (.slice Ao9 t200.length co9)).heap[gb203]? = some (.cells #[.slice Ao9 t200.length co9] 43 (0,0))):=⟨by (with_reducible repeat (first|refine qn ?_ _|refine qd ?_|refine qa ?_ _));refine blk_put (cs:=#[.slice none 0 0]) ?_ 0 _ rfl;(with_reducible repeat (first|refine qn ?_ _|refine qd ?_|refine qa ?_ _));exact BK203.out⟩
  have n3_ : Aside0 (Below w.heap.size w (w8.setCell ⟨gb203,0,none⟩ (.slice Ao9 t200.length co9))):=⟨by repeat (first|(with_reducible first|exact HB.out|apply pa|apply pb|apply pd|refine pt ?_ GE199.out|refine pt ?_ GE203.out)|exact HB.out)⟩
  (try clear HO202)
  (try clear BK199)
  (try clear BK203)
  (try clear HB)
  generalize (w8.setCell ⟨gb203,0,none⟩ (.slice Ao9 t200.length co9))=w12 at n0_ n1_ n2_ n3_ ⊢
  have HO202:=n0_
  have BK199:=n1_
  have BK203:=n2_
  have HB:=n3_
  clear n0_ n1_ n2_ n3_
  have n0_:=am (Kd.N_drew HO202.out)
  have n1_:=am (qd BK199.out)
  have n2_:=am (qd BK203.out)
  have n3_:=am (pd HB.out)
  clear HO202
  clear BK199
  clear BK203
  clear HB
  have HO202:=n0_
  have BK199:=n1_
  have BK203:=n2_
  have HB:=n3_
  clear n0_ n1_ n2_ n3_
  refine start_ (n:=9) (S:=fun w'=>w'.cell? ⟨gb203,0,none⟩=some (.slice Ao9 t200.length co9)) (ds:=[8]) #[Z,Z,Z,Z,Z,Z,Z,Z,Z] (by kernel_rfl) rfl rfl ((blk_cell BK203.out 0).trans rfl) (fun hHeld=>?_);refine with_tabW spec_l3Matrix.tab2 spec_l3Matrix.bits2 (fun HT_ HW_=>?_)
  generalize w12.drew=w13 at HO202 BK199 BK203 HB hHeld ⊢
  refine pure_ (i:=0) (N:=some 8) (v:=?_) (a':=?_) #[Y,Z,Z,Z,Z,Z,Z,Z,Z] rfl rfl (any_of HT_.out (by kernel_rfl)) hh (Or.inl ⟨by rfl,?_⟩) ?_ ?_
  rotate_left
  ·intro w'
   go_simp
   with_reducible rfl
  rotate_left
  ·simp only [Act.put,q1,q2,q3,i64_w,i32_w]
   rfl
  refine pure_ (i:=2) (N:=some 10) (v:=?_) (a':=?_) #[Y,Z,Y,Z,Z,Z,Z,Z,Z] rfl rfl (any_of HT_.out (by kernel_rfl)) hh (Or.inl ⟨by rfl,?_⟩) ?_ ?_
  rotate_left
  ·intro w'
   go_simp
   with_reducible rfl
  rotate_left
  ·simp only [Act.put,q1,q2,q3,i64_w,i32_w]
   rfl
  refine pure_ (i:=3) (N:=some 11) (v:=?_) (a':=?_) #[Y,Z,Y,Y,Z,Z,Z,Z,Z] rfl rfl (any_of HT_.out (by kernel_rfl)) hh (Or.inl ⟨by rfl,?_⟩) ?_ ?_
  rotate_left
  ·intro w'
   go_simp
   with_reducible rfl
  rotate_left
  ·simp only [Act.put,q1,q2,q3,i64_w,i32_w]
   rfl
  refine take_ (i:=1) (N:=some 9) (v:=?_) (a':=?_) #[Y,Y,Y,Y,Z,Z,Z,Z,Z] rfl rfl (take_ofW HT_.out HW_.out (by kernel_rfl)) hh (Or.inl ⟨by rfl,?_⟩) hHeld ?_ ?_
  rotate_left
  ·intro w' s0
   go_simp
   with_reducible rfl
  rotate_left
  ·simp only [Act.put,q1,q2,q3,i64_w,i32_w]
   rfl
  refine one_ (i:=4) (N:=some 12) #[Y,Y,Y,Y,Y,Z,Z,Z,Z] rfl rfl (one_of HT_.out (by kernel_rfl)) (by decide) (fun K hK=>?_)
  refine goes_ Try.func186 (by kernel_rfl) rfl #[.int .i64 a1, .int .i64 a0] (by rfl) rfl rfl (by (try simp only [List.map_toArray,List.map_cons,List.map_nil]);first|done|rfl|(simp only [List.length_drop,List.length_take];rfl)) ?_
  with_reducible refine (spec_l2Cauchy.calls k a1 a0 t204 _ A4.out).mono ?_
  rintro e w14 ⟨v205,rfl,ho0,hb⟩
  refine ⟨_,rfl,?_⟩
  have n0_:=am (Kd.N_elder' (by (with_reducible repeat (first|apply Kd.N_alloc|apply Kd.N_drewN|apply Kd.N_drew));exact HO202.out) (by first|exact Kd.N_base ho0|exact Kd.S_base ho0|exact Kd.R_base ho0) hb)
  have n1_:=am (Kd.N_lower (Kd.N_mono (ok':=fun k_=>(w.heap.size≤k_)∧some k_ ≠ (.slice Ao9 t200.length co9 : Value).ownBlock∧k_ ≠ gb199∧k_ ≠ gb203) (Kd.S_N (Kd.S_bound ho0)) (fun k_ hk_=>⟨(Nat.le_trans (pz (by repeat (first|(with_reducible first|exact HB.out|apply pa|apply pb|apply pd|refine pt ?_ GE199.out|refine pt ?_ GE203.out)|exact HB.out))) hk_.2.1),(Kd.fresh' (Kd.N_lt (by (with_reducible repeat (first|apply Kd.N_alloc|apply Kd.N_drewN|apply Kd.N_drew));exact HO202.out)) k_ hk_.2.1),(Kd.freshB (g:=gb199) (o:=.cells #[.slice none 0 0] 43 (0,0)) (by (with_reducible repeat (first|refine qn ?_ _|refine qd ?_|refine qa ?_ _));exact BK199.out) k_ hk_.2.1),(Kd.freshB (g:=gb203) (o:=.cells #[.slice Ao9 t200.length co9] 43 (0,0)) (by (with_reducible repeat (first|refine qn ?_ _|refine qd ?_|refine qa ?_ _));exact BK203.out) k_ hk_.2.1)⟩)) (pz (by repeat (first|(with_reducible first|exact HB.out|apply pa|apply pb|apply pd|refine pt ?_ GE199.out|refine pt ?_ GE203.out)|exact HB.out))))
  have n2_:=am (qb (g:=gb199) (o:=.cells #[.slice none 0 0] 43 (0,0)) (by (with_reducible repeat (first|refine qn ?_ _|refine qd ?_|refine qa ?_ _));exact BK199.out) hb)
  have n3_:=am (qb (g:=gb203) (o:=.cells #[.slice Ao9 t200.length co9] 43 (0,0)) (by (with_reducible repeat (first|refine qn ?_ _|refine qd ?_|refine qa ?_ _));exact BK203.out) hb)
  have n4_:=am (pu (by repeat (first|(with_reducible first|exact HB.out|apply pa|apply pb|apply pd|refine pt ?_ GE199.out|refine pt ?_ GE203.out)|exact HB.out)) hb)
  clear HO202
  clear BK199
  clear BK203
  clear HB
  have HO202:=n0_
  have HO206:=n1_
  have BK199:=n2_
  have BK203:=n3_
  have HB:=n4_
  clear n0_ n1_ n2_ n3_ n4_
  (try clear hb)
  (try clear hb2)
  (try clear hk)
  (try clear hi)
  (try clear ho0)
  obtain ⟨Ao16,co16,eo16⟩:=Kd.N_slice HO206.out
  (first|subst eo16|(injection eo16 with f1_ f2_ f3_;have f4_:=f1_.symm;have f5_:=f3_.symm;clear f1_ f2_ f3_;subst f4_;subst f5_))
  refine hK.out _ _ ((blk_cell BK203.out 0).trans rfl) (fun hHeld=>?_)
  clear hK K
  refine norm_ (a':=?_) ?_ ?_
  rotate_left
  ·show Act.put _ (some 12) _=_
   simp only [Act.put,q1,q2,q3,i64_w,i32_w]
   rfl
  refine pure_ (i:=5) (N:=some 13) (v:=?_) (a':=?_) #[Y,Y,Y,Y,Y,Y,Z,Z,Z] rfl rfl (any_of HT_.out (by kernel_rfl)) hh (Or.inl ⟨by rfl,?_⟩) ?_ ?_
  rotate_left
  ·intro w'
   go_simp
   with_reducible rfl
  rotate_left
  ·simp only [Act.put,q1,q2,q3,i64_w,i32_w]
   rfl
  refine one_ (i:=6) (N:=some 14) #[Y,Y,Y,Y,Y,Y,Y,Z,Z] rfl rfl (one_of HT_.out (by kernel_rfl)) (by decide) (fun K hK=>?_)
  refine Kd.N_append_rows_step (Kd.slice 5 (Kd.int .u8)) (w0:=w) w.heap.size (by rfl) (.tmp 9) (.tmp 13) 37 57 (.slice none 0 0) 24 rfl Try.underlying37 info57 rfl (by decide) (by omega) (.slice Ao9 t200.length co9) t200 t204 _ _ _ (fun k_=>(w.heap.size≤k_)∧k_ ≠ gb199∧k_ ≠ gb203) (fun k_=>((fun k_=>(w.heap.size≤k_)∧k_ ≠ gb199∧k_ ≠ gb203)) k_∧some k_ ≠ (.slice Ao9 t200.length co9 : Value).ownBlock) rfl rfl ?aO ?aR (fun _ hk=>hk) ?aF ?aB ?aS ?aL ?_
  (case aR=>exact (by skip;exact Kd.N_F (Kd.N_mono (ok':=(fun k_=>((fun k_=>(w.heap.size≤k_)∧k_ ≠ gb199∧k_ ≠ gb203)) k_∧some k_ ≠ (.slice Ao9 t200.length co9 : Value).ownBlock)) (HO206.out) (fun k_ hk=>⟨⟨hk.1,⟨hk.2.2.1,hk.2.2.2⟩⟩,hk.2.1⟩))))
  (case aB=>exact (by repeat (first|(with_reducible first|exact HB.out|apply pa|apply pb|apply pd|refine pt ?_ GE199.out|refine pt ?_ GE203.out)|exact HB.out)))
  (case aF=>exact (fun k_ hk=>⟨(Nat.le_trans (pz (by repeat (first|(with_reducible first|exact HB.out|apply pa|apply pb|apply pd|refine pt ?_ GE199.out|refine pt ?_ GE203.out)|exact HB.out))) hk),Kd.freshB (g:=gb199) (o:=.cells #[.slice none 0 0] 43 (0,0)) (by (with_reducible repeat (first|refine qn ?_ _|refine qd ?_|refine qa ?_ _));exact BK199.out) k_ hk,Kd.freshB (g:=gb203) (o:=.cells #[.slice Ao9 t200.length co9] 43 (0,0)) (by (with_reducible repeat (first|refine qn ?_ _|refine qd ?_|refine qa ?_ _));exact BK203.out) k_ hk⟩))
  (case aO=>exact (by (with_reducible repeat (first|apply Kd.N_alloc|apply Kd.N_drewN|apply Kd.N_drew));exact Kd.N_mono HO202.out (fun _ hk=>⟨hk.1.1,⟨hk.1.2.1,hk.1.2.2⟩⟩)))
  (case aS=>exact (pz (by repeat (first|(with_reducible first|exact HB.out|apply pa|apply pb|apply pd|refine pt ?_ GE199.out|refine pt ?_ GE203.out)|exact HB.out))))
  (case aL=>have:=LMc5.out;omega)
  intro v208 w15 ho hb hg hat
  rw [← Ny207.out] at ho
  have n0_:=am (blk_grown (g:=gb199) (o:=.cells #[.slice none 0 0] 43 (0,0)) (by (with_reducible repeat (first|refine qn ?_ _|refine qd ?_|refine qa ?_ _));exact BK199.out) hg (Kd.N_ne HO202.out BK199.out (by decide)))
  have n1_:=am (blk_grown (g:=gb203) (o:=.cells #[.slice Ao9 t200.length co9] 43 (0,0)) (by (with_reducible repeat (first|refine qn ?_ _|refine qd ?_|refine qa ?_ _));exact BK203.out) hg (Kd.N_ne HO202.out BK203.out (by decide)))
  have n2_:=am (Kd.N_afterv (ok:=(fun k_=>(w.heap.size≤k_)∧k_ ≠ gb199∧k_ ≠ gb203)) (by (with_reducible repeat (first|apply Kd.N_alloc|apply Kd.N_drewN|apply Kd.N_drew));exact Kd.N_mono HO206.out (fun _ hk=>⟨⟨hk.1,⟨hk.2.2.1,hk.2.2.2⟩⟩,hk.2.1⟩)) hg hat)
  have n3_:=am (hb)
  have n4_:=am (ho)
  clear BK199
  clear BK203
  clear HO206
  clear HB
  clear HO202
  have BK199:=n0_
  have BK203:=n1_
  have HO206:=n2_
  have HB:=n3_
  have HO209:=n4_
  clear n0_ n1_ n2_ n3_ n4_
  clear ho hb hg hat
  obtain ⟨Ao17,co17,eo17⟩:=Kd.N_slice HO209.out
  (first|subst eo17|(injection eo17 with f1_ f2_ f3_;have f4_:=f1_.symm;have f5_:=f3_.symm;clear f1_ f2_ f3_;subst f4_;subst f5_))
  refine hK.out _ _ ((blk_cell BK203.out 0).trans rfl) (fun hHeld=>?_)
  clear hK K
  refine norm_ (a':=?_) ?_ ?_
  rotate_left
  ·show Act.put _ (some 14) _=_
   simp only [Act.put,q1,q2,q3,i64_w,i32_w]
   rfl
  refine pure_ (i:=7) (N:=some 15) (v:=?_) (a':=?_) #[Y,Y,Y,Y,Y,Y,Y,Y,Z] rfl rfl (any_of HT_.out (by kernel_rfl)) hh (Or.inl ⟨by rfl,?_⟩) ?_ ?_
  rotate_left
  ·intro w'
   go_simp
   with_reducible rfl
  rotate_left
  ·simp only [Act.put,q1,q2,q3,i64_w,i32_w]
   rfl
  refine last_ (i:=8) (N:=none) #[Y,Y,Y,Y,Y,Y,Y,Y,Y] rfl rfl (one_of HT_.out (by kernel_rfl)) (by decide) (fun K hK=>?_)
  have hs18 : w15.cell? ⟨gb203,0,none⟩=some (.slice Ao9 t200.length co9):=(blk_cell BK203.out 0).trans rfl
  have hfs18:=blk_frozen BK203.out 0
  have hns18_0:=NB199_203.out
  have hms18_0:=NB203_199.out
  refine skip_ (w1:=?_) (by rfl) rfl ?_ ?_
  rotate_left
  ·go_simp
   rfl
  refine hK.out _ _ ?_
  clear hK K
  refine done_ (done_of HT_.out (by kernel_rfl)) ?_
  have hcz19_0 : w15.cell? ⟨gb203,0,none⟩=some (.slice Ao9 t200.length co9):=(blk_cell BK203.out 0).trans rfl
  have hfz19_0:=blk_frozen BK203.out 0
  have hcz20_0 : w15.cell? ⟨gb199,0,none⟩=some (.slice none 0 0):=(blk_cell BK199.out 0).trans rfl
  have hfz20_0:=blk_frozen BK199.out 0
  try go_wp2
  refine bodyPost_ret (results_cell_row rfl _ _ gb199 43 #[.slice Ao17 y207.length co17] (0,0) _ rfl (by (with_reducible repeat (first|refine qn ?_ _|refine qd ?_|refine qa ?_ _));refine blk_put (cs:=#[.slice none 0 0]) ?_ 0 _ rfl;(with_reducible repeat (first|refine qn ?_ _|refine qd ?_|refine qa ?_ _));refine blk_far ?_ NB199_203.out _;(with_reducible repeat (first|refine qn ?_ _|refine qd ?_|refine qa ?_ _));exact BK199.out) Try.underlying43 rfl (by kernel_rfl)) rfl ?_
  exact ⟨_,by first|rfl|(simp [errW_none,errW_some] <;> rfl)|(simp [*,errW_none,errW_some] <;> rfl),by (with_reducible repeat (first|apply Kd.N_alloc|apply Kd.N_drewN|apply Kd.N_drew));exact Kd.N_mono (Kd.N_far (p:=⟨gb199,0,none⟩) (Kd.N_far (p:=⟨gb203,0,none⟩) (Kd.N_mono (Kd.N_mono HO209.out (fun k_ hk=>(⟨hk,hk.2.2⟩ : _∧k_ ≠ gb203))) (fun k_ hk=>(⟨hk,hk.1.2.1⟩ : _∧k_ ≠ gb199))) (fun _ hk=>hk.1.2) (.slice Ao17 y207.length co17)) (fun _ hk=>hk.2) (.slice Ao17 y207.length co17)) (fun _ hk=>hk.1.1.1),by repeat (first|(with_reducible first|exact HB.out|apply pa|apply pb|apply pd|refine pt ?_ GE199.out|refine pt ?_ GE203.out)|exact HB.out)⟩
 ·rw [if_neg c5] at H
  exact absurd H (by simp)

def spec_l3Decode.l0 : Nat→Int→Int→List Int→List ByteArray→List (S84)→Int→Int→Option (List ByteArray × Bool)
 | 0,_,_,_,_,_,_,_=>none
 | k+1,x1,x2,x8,x9,x16,x17,x18=>if x18 < x17 then (if 0≤x18 then (if x18 < (x16.length : Int) then (if x8.length < 17592186044416 then (if x9.length < 8796093022208 then (spec_l3Decode.l0 k x1 x2 (x8 ++ [(rd_T84 x16 x18).f0]) (x9 ++ [(rd_T84 x16 x18).f1]) x16 x17 (wrap64 (x18+1))) else (none)) else (none)) else (none)) else (none)) else ((spec_l3Matrix.f k x1 x2).bind fun t222=>((spec_l3All.f k x1).bind fun t225=>((spec_l2Part.f k t222 x8 t225).bind fun t228=>((spec_l2Inverse.f t228).bind fun bt231=>(if bt231.2=true then ((spec_l3Rows.f k bt231.1 x9).bind fun t236=>(some (t236,true))) else (some (([] : List ByteArray),false)))))))
def spec_l3Decode.f (k : Nat) (l0 : List (S84)) (a1 : Int) (a2 : Int) : Option (List ByteArray × Bool):=if 0≤a1 then (if a1≤(l0.length : Int) then ((some (l0.take (a1 : Int).toNat : List (S84))).bind fun y210=>(spec_l3Decode.l0 k a1 a2 ([] : List Int) ([] : List ByteArray) y210 (y210.length : Int) 0)) else (none)) else (none)
theorem spec_l3Decode.mono_l : ∀ k,(∀ y0 y1 y2 y3 y4 y5 y6,LeO (spec_l3Decode.l0 k y0 y1 y2 y3 y4 y5 y6) (spec_l3Decode.l0 (k+1) y0 y1 y2 y3 y4 y5 y6))
 | 0=>fun _ _ _ _ _ _ _ r h=>by simp [spec_l3Decode.l0] at h
 | k+1=>by
  have ih0:=spec_l3Decode.mono_l k
  ·intro y0 y1 y2 y3 y4 y5 y6
   unfold spec_l3Decode.l0
   repeat' first
   | (with_reducible exact ih0 _ _ _ _ _ _ _)
   | (with_reducible exact spec_l2Part.mono _ _ _ _)
   | (with_reducible exact spec_l3All.mono _ _)
   | (with_reducible exact spec_l3Matrix.mono _ _ _)
   | (with_reducible exact spec_l3Rows.mono _ _ _)
   | (with_reducible exact LeO.refl _)
   | (with_reducible exact LeO.none _)
   | (with_reducible refine LeO.ite ?_ ?_)
   | (with_reducible refine LeO.bind ?_ (fun _=>?_))
   | exact ih0 _ _ _ _ _ _ _
   | exact spec_l2Part.mono _ _ _ _
   | exact spec_l3All.mono _ _
   | exact spec_l3Matrix.mono _ _ _
   | exact spec_l3Rows.mono _ _ _
   | exact LeO.none _
   | refine LeO.ite ?_ ?_
   | refine LeO.bind ?_ (fun _=>?_)
theorem spec_l3Decode.mono : ∀ a0 a1 a2 k,LeO (spec_l3Decode.f k a0 a1 a2) (spec_l3Decode.f (k+1) a0 a1 a2):=by
 intro a0 a1 a2 k
 have ih0:=spec_l3Decode.mono_l k
 unfold spec_l3Decode.f
 repeat' first
   | (with_reducible exact ih0 _ _ _ _ _ _ _)
   | (with_reducible exact spec_l2Part.mono _ _ _ _)
   | (with_reducible exact spec_l3All.mono _ _)
   | (with_reducible exact spec_l3Matrix.mono _ _ _)
   | (with_reducible exact spec_l3Rows.mono _ _ _)
   | (with_reducible exact LeO.refl _)
   | (with_reducible exact LeO.none _)
   | (with_reducible refine LeO.ite ?_ ?_)
   | (with_reducible refine LeO.bind ?_ (fun _=>?_))
   | exact ih0 _ _ _ _ _ _ _
   | exact spec_l2Part.mono _ _ _ _
   | exact spec_l3All.mono _ _
   | exact spec_l3Matrix.mono _ _ _
   | exact spec_l3Rows.mono _ _ _
   | exact LeO.none _
   | refine LeO.ite ?_ ?_
   | refine LeO.bind ?_ (fun _=>?_)
set_option maxHeartbeats 8000000 in
set_option maxRecDepth 100000 in
theorem spec_l3Decode.calls (k : Nat) (A0 : Option Addr) (c0 : Nat) (l0 : List (S84)) (a1 : Int) (a2 : Int) (r1 : List ByteArray) (r2 : Bool) (w : World) (hr0 : Kd.C k84 w A0 l0.length l0) (hc0 : l0.length≤c0) (h : spec_l3Decode.f k l0 a1 a2=some (r1,r2)) :
  Calls Try.prog 143 #[.slice A0 l0.length c0, .int .i64 a1, .int .i64 a2] w fun e w'=>∃ v0_ : Value,e = .returned (.tuple #[v0_, .bool r2])∧Kd.R Kd.string 9 w' w.heap.size (fun _=>True) v0_ r1∧Below w.heap.size w w':=by
 have hu84:=Try.underlying84
 have hu43:=Try.underlying43
 have HR0:=am hr0
 have HC0:=am hc0
 clear hr0 hc0
 have HB:=am (Below.refl w.heap.size w)
 have H : (if 0≤a1 then (if a1≤(l0.length : Int) then ((some (l0.take (a1 : Int).toNat : List (S84))).bind fun y210=>(spec_l3Decode.l0 k a1 a2 ([] : List Int) ([] : List ByteArray) y210 (y210.length : Int) 0)) else (none)) else (none))=some (r1,r2):=h
 clear h
 by_cases c4 : 0≤a1
 ·rw [if_pos c4] at H
  have c4b0:=eq_true c4
  have c4b1 : decide (0≤a1)=true:=decide_eq_true c4
  clear c4
  by_cases c5 : a1≤(l0.length : Int)
  ·rw [if_pos c5] at H
   have c5b0:=eq_true c5
   have c5b1 : decide (a1≤(l0.length : Int))=true:=decide_eq_true c5
   clear c5
   obtain ⟨y210,hy210⟩ : ∃ y_ : List (S84),y_=(l0.take (a1 : Int).toNat):=⟨_,rfl⟩
   replace H : (spec_l3Decode.l0 k a1 a2 ([] : List Int) ([] : List ByteArray) y210 (y210.length : Int) 0)=some (r1,r2):=by first|(rw [hy210];with_reducible exact H)|(have H2_:=(Option.bind_some _ _).symm.trans H;rw [hy210];with_reducible exact H2_)|(have H2_:=(Option.bind_some _ _).symm.trans H;with_reducible exact H2_)|with_reducible exact H|(rw [hy210];exact H)|exact H
   have Ny210:=am hy210
   clear hy210
   have H':=am H
   clear H
   have q6 : (a1 : Int)≤((l0.length : Int) : Int):=of_decide_eq_true (by first|(with_reducible assumption)|assumption)
   obtain ⟨i06,hi06,_,hsz6,_⟩:=info_parts info84
   have hroom6 : l0.length≤c0:=HC0.out
   have hC6 : Kd.C k84 _ A0 l0.length l0:=HR0.out
   have hcut6:=cut_to (P:=Try.prog) 87 84 .i64 Try.underlying87 hi06 A0 l0.length c0 a1 (of_decide_eq_true (by first|(with_reducible assumption)|assumption)) q6 hroom6
   have hr6:=Kd.C_take (m:=(a1 : Int).toNat) hC6 (by omega)
   have hy6 : y210.length=(a1 : Int).toNat:=(by rw [Ny210.out,List.length_take];omega)
   rw [← Ny210.out] at hr6
   rw [← hy6] at hcut6
   have HR213:=am hr6
   have HC213:=am (show y210.length≤c0 from by omega)
   clear hr6 hC6 hroom6 hi06 hsz6
   have KY6:=am hy6
   clear hy6
   replace q6:=eq_true q6
   go_enter Try.func143,Try.ntmps143
   go_wp2
   go_loopg [8,9,18] k (fun kq v8 v9 v18 w'=>∃ (x8_1 : List Int) (x9_1 : List ByteArray) (x18_1 : Int),v18 = .int .i64 x18_1∧Aside0 (spec_l3Decode.l0 kq a1 a2 x8_1 x9_1 y210 (y210.length : Int) x18_1=some (r1,r2))∧Aside0 (kq≤k)∧Aside0 (Kd.R (Kd.int .i64) 3 w' w.heap.size (fun _=>True) v8 x8_1)∧Aside0 (Kd.R Kd.string 9 w' w.heap.size (fun _=>True) v9 x9_1)∧Aside0 (Below w.heap.size w w'))
   case atStart=>exact ⟨(([] : List Int)),(([] : List ByteArray)),(0),(by first|rfl|(simp;done)|(simp [*];done)),H',⟨Nat.le_refl _⟩,⟨by first|exact Kd.R_nil _ _ _ _ _|exact Kd.N_nil _ _ _ _ _|exact Kd.V_nil _ _ _ _ _|exact Kd.Q_nil _ _ _ _ _|exact Kd.S_nil _ _ _ _ _⟩,⟨by first|exact Kd.R_nil _ _ _ _ _|exact Kd.N_nil _ _ _ _ _|exact Kd.V_nil _ _ _ _ _|exact Kd.Q_nil _ _ _ _ _|exact Kd.S_nil _ _ _ _ _⟩,⟨by repeat (first|(with_reducible first|exact HB.out|apply pa|apply pb|apply pd)|exact HB.out)⟩⟩
   case round =>
    clear H'
    try clear c1
    try clear p2
    try clear c4
    try clear c4b0
    try clear c4b1
    try clear c5
    try clear c5b0
    try clear c5b1
    try clear q6
    try clear q6
    obtain ⟨x8_1,x9_1,x18_1,rfl,HA,HK1,HO_8,HO_9,HB⟩:=hrel
    cases gk with
    | zero=>exact absurd HA.out (by simp [spec_l3Decode.l0])
    | succ k1 =>
     have H:=HA.out
     clear HA
     simp only [spec_l3Decode.l0] at H
     by_cases c7 : x18_1 < (y210.length : Int)
     ·rw [if_pos c7] at H
      have c7b0 : decide (x18_1 < (y210.length : Int))=true:=decide_eq_true c7
      clear c7
      by_cases c8 : 0≤x18_1
      ·rw [if_pos c8] at H
       have c8b0 : decide (0≤x18_1)=true:=decide_eq_true c8
       clear c8
       by_cases c9 : x18_1 < (y210.length : Int)
       ·rw [if_pos c9] at H
        have c9b0 : decide (x18_1 < (y210.length : Int))=true:=decide_eq_true c9
        clear c9
        by_cases c10 : x8_1.length < 17592186044416
        ·rw [if_pos c10] at H
         have LMc10:=am c10
         clear c10
         obtain ⟨y216,hy216⟩ : ∃ y_ : List Int,y_=(x8_1 ++ [(rd_T84 y210 x18_1).f0]):=⟨_,rfl⟩
         replace H : (if x9_1.length < 8796093022208 then (spec_l3Decode.l0 k1 a1 a2 y216 (x9_1 ++ [(rd_T84 y210 x18_1).f1]) y210 (y210.length : Int) (wrap64 (x18_1+1))) else (none))=some (r1,r2):=by first|(rw [hy216];with_reducible exact H)|(have H2_:=(Option.bind_some _ _).symm.trans H;rw [hy216];with_reducible exact H2_)|(have H2_:=(Option.bind_some _ _).symm.trans H;with_reducible exact H2_)|with_reducible exact H|(rw [hy216];exact H)|exact H
         have Ny216:=am hy216
         clear hy216
         by_cases c11 : x9_1.length < 8796093022208
         ·rw [if_pos c11] at H
          have LMc11:=am c11
          clear c11
          obtain ⟨y219,hy219⟩ : ∃ y_ : List ByteArray,y_=(x9_1 ++ [(rd_T84 y210 x18_1).f1]):=⟨_,rfl⟩
          replace H : (spec_l3Decode.l0 k1 a1 a2 y216 y219 y210 (y210.length : Int) (wrap64 (x18_1+1)))=some (r1,r2):=by first|(rw [hy219];with_reducible exact H)|(have H2_:=(Option.bind_some _ _).symm.trans H;rw [hy219];with_reducible exact H2_)|(have H2_:=(Option.bind_some _ _).symm.trans H;with_reducible exact H2_)|with_reducible exact H|(rw [hy219];exact H)|exact H
          have Ny219:=am hy219
          clear hy219
          have H':=am H
          clear H
          have p214 : 0≤(x18_1 : Int):=of_decide_eq_true (by first|(with_reducible assumption)|assumption)
          have q214 : x18_1 < (y210.length : Int):=of_decide_eq_true (by first|(with_reducible assumption)|assumption)
          obtain ⟨ad214,e214,hx214_0,hx214_1⟩:=at_T84 HR213.out x18_1 p214 q214
          cases e214
          replace hx214_0:=(HB.out.cell (World.block_lt_of_cell? w _ hx214_0)).trans hx214_0
          replace hx214_1:=(HB.out.cell (World.block_lt_of_cell? w _ hx214_1)).trans hx214_1
          replace p214:=eq_true p214
          replace q214:=eq_true q214
          go_wp2_with (first|((with_reducible refine gate_dst (N:=11) rfl ?_);refine box_event ?hg (N:=11) ?hd (cs:=#[.int .i64 0, .string (⟨#[]⟩ : ByteArray)]) (t:=84) ?hr ?_;(case hd=>rfl);(case hg=>rfl);(case hr=>first|(go_simp;done)|(go_simp;rfl));intro gb215 hg w12 hbox hb;have n0_:=am (Kd.R_below (by (with_reducible repeat (first|apply Kd.R_alloc|apply Kd.R_drewN|apply Kd.R_drew));exact HO_8.out) hb);have n1_:=am (Kd.R_below (by (with_reducible repeat (first|apply Kd.R_alloc|apply Kd.R_drewN|apply Kd.R_drew));exact HO_9.out) hb);have n2_:=am (pu (by repeat (first|(with_reducible first|exact HB.out|apply pa|apply pb|apply pd)|exact HB.out)) hb);have n3_:=am (hbox);have n4_:=am ((by rw [hg];exact (pz (by repeat (first|(with_reducible first|exact HB.out|apply pa|apply pb|apply pd)|exact HB.out))) : w.heap.size≤gb215));have n5_:=am ((by rw [hg];exact (pz (by repeat (first|(with_reducible first|exact HB.out|apply pa|apply pb|apply pd)|exact HB.out))) : w.heap.size≤gb215));clear HO_8;clear HO_9;clear HB;have HO_8:=n0_;have HO_9:=n1_;have HB:=n2_;have BK215:=n3_;have GW215:=n4_;have GE215:=n5_;clear n0_ n1_ n2_ n3_ n4_ n5_;clear hb hbox hg;have hcz13_0 : w12.cell? ⟨gb215,0,none⟩=some (.int .i64 0):=(blk_cell BK215.out 0).trans rfl;have hcz13_1 : w12.cell? ⟨gb215,1,none⟩=some (.string (⟨#[]⟩ : ByteArray)):=(blk_cell BK215.out 1).trans rfl;have hfz13_0:=blk_frozen BK215.out 0;have hfz13_1:=blk_frozen BK215.out 1)|((with_reducible refine gate_builtin (b:=.append) (xs:=#[.tmp 22, .tmp 25]) rfl ?_);at_builtin;refine Kd.R_append (Kd.int .i64) (w0:=w) w.heap.size rfl (.tmp 22) (.tmp 25) 25 3 (.int .i64 0) 8 rfl Try.underlying25 info3 rfl (by decide) (by omega) u8 x8_1 ((rd_T84 y210 x18_1).f0) [.int .i64 ((rd_T84 y210 x18_1).f0)] (fun _=>True) (fun _=>False) rfl (by first|(go_simp;done)|(go_simp;rfl)) ?aP (fun _ hk=>hk.elim) ?aF ?aO ?aB ?aS ?aL ?_;(case aP=>exact rfl);(case aB=>exact (by repeat (first|(with_reducible first|exact HB.out|apply pa|apply pb|apply pd|refine pt ?_ GE215.out)|exact HB.out)));(case aF=>exact (fun _ _=>trivial));(case aO=>exact (by (with_reducible repeat (first|apply Kd.R_alloc|apply Kd.R_drewN|apply Kd.R_drew));exact Kd.R_mono (Kd.R_far (p:=⟨gb215,1,none⟩) (Kd.R_far (p:=⟨gb215,0,none⟩) (Kd.R_types HO_8.out BK215.out (by decide)) (fun _ hk=>hk.2) (.int .i64 ((rd_T84 y210 x18_1).f0))) (fun _ hk=>hk.2) (.string ((rd_T84 y210 x18_1).f1))) (fun _ hk=>trivial)));(case aS=>exact (pz (by repeat (first|(with_reducible first|exact HB.out|apply pa|apply pb|apply pd|refine pt ?_ GE215.out)|exact HB.out))));(case aL=>have:=LMc10.out;omega);intro v217 w14 ho hb hg hat;rw [← Ny216.out] at ho;have n0_:=am (Kd.R_over' (by (with_reducible repeat (first|apply Kd.R_alloc|apply Kd.R_drewN|apply Kd.R_drew));exact (Kd.R_mono (Kd.R_far (p:=⟨gb215,1,none⟩) (Kd.R_far (p:=⟨gb215,0,none⟩) (Kd.R_types HO_9.out BK215.out (by decide)) (fun _ hk=>hk.2) (.int .i64 ((rd_T84 y210 x18_1).f0))) (fun _ hk=>hk.2) (.string ((rd_T84 y210 x18_1).f1))) (fun _ h_=>h_.1))) (Kd.R_typed (by (with_reducible repeat (first|apply Kd.R_alloc|apply Kd.R_drewN|apply Kd.R_drew));exact (Kd.R_mono (Kd.R_far (p:=⟨gb215,1,none⟩) (Kd.R_far (p:=⟨gb215,0,none⟩) (Kd.R_types HO_8.out BK215.out (by decide)) (fun _ hk=>hk.2) (.int .i64 ((rd_T84 y210 x18_1).f0))) (fun _ hk=>hk.2) (.string ((rd_T84 y210 x18_1).f1))) (fun _ h_=>h_.1)))) (by decide) hg);have n1_:=am (blk_grown (g:=gb215) (o:=.cells #[.int .i64 ((rd_T84 y210 x18_1).f0), .string ((rd_T84 y210 x18_1).f1)] 84 (0,0)) (by (with_reducible repeat (first|refine qn ?_ _|refine qd ?_|refine qa ?_ _));refine blk_put (cs:=#[.int .i64 ((rd_T84 y210 x18_1).f0), .string (⟨#[]⟩ : ByteArray)]) ?_ 1 _ rfl;(with_reducible repeat (first|refine qn ?_ _|refine qd ?_|refine qa ?_ _));refine blk_put (cs:=#[.int .i64 0, .string (⟨#[]⟩ : ByteArray)]) ?_ 0 _ rfl;(with_reducible repeat (first|refine qn ?_ _|refine qd ?_|refine qa ?_ _));exact BK215.out) hg (Kd.R_ne HO_8.out BK215.out (by decide)));have n2_:=am (hb);have n3_:=am (ho);clear HO_9;clear BK215;clear HB;clear HO_8;have HO_9:=n0_;have BK215:=n1_;have HB:=n2_;have HO218:=n3_;clear n0_ n1_ n2_ n3_;clear ho hb hg hat;have hcz15_0 : w14.cell? ⟨gb215,0,none⟩=some (.int .i64 ((rd_T84 y210 x18_1).f0)):=(blk_cell BK215.out 0).trans rfl;have hcz15_1 : w14.cell? ⟨gb215,1,none⟩=some (.string ((rd_T84 y210 x18_1).f1)):=(blk_cell BK215.out 1).trans rfl;have hfz15_0:=blk_frozen BK215.out 0;have hfz15_1:=blk_frozen BK215.out 1)|((with_reducible refine gate_builtin (b:=.append) (xs:=#[.tmp 27, .tmp 30]) rfl ?_);at_builtin;refine Kd.R_append Kd.string (w0:=w) w.heap.size rfl (.tmp 27) (.tmp 30) 22 9 (.string ⟨#[]⟩) 16 rfl Try.underlying22 info9 rfl (by decide) (by omega) u9 x9_1 ((rd_T84 y210 x18_1).f1) [.string ((rd_T84 y210 x18_1).f1)] (fun _=>True) (fun _=>False) rfl rfl ?aP (fun _ hk=>hk.elim) ?aF ?aO ?aB ?aS ?aL ?_;(case aP=>exact rfl);(case aB=>exact (by repeat (first|(with_reducible first|exact HB.out|apply pa|apply pb|apply pd|refine pt ?_ GE215.out)|exact HB.out)));(case aF=>exact (fun _ _=>trivial));(case aO=>exact (by (with_reducible repeat (first|apply Kd.R_alloc|apply Kd.R_drewN|apply Kd.R_drew));exact HO_9.out));(case aS=>exact (pz (by repeat (first|(with_reducible first|exact HB.out|apply pa|apply pb|apply pd|refine pt ?_ GE215.out)|exact HB.out))));(case aL=>have:=LMc11.out;omega);intro v220 w16 ho hb hg hat;rw [← Ny219.out] at ho;have n0_:=am (blk_grown (g:=gb215) (o:=.cells #[.int .i64 ((rd_T84 y210 x18_1).f0), .string ((rd_T84 y210 x18_1).f1)] 84 (0,0)) (by (with_reducible repeat (first|refine qn ?_ _|refine qd ?_|refine qa ?_ _));exact BK215.out) hg (Kd.R_ne HO_9.out BK215.out (by decide)));have n1_:=am (Kd.R_over' (by (with_reducible repeat (first|apply Kd.R_alloc|apply Kd.R_drewN|apply Kd.R_drew));exact HO218.out) (Kd.R_typed (by (with_reducible repeat (first|apply Kd.R_alloc|apply Kd.R_drewN|apply Kd.R_drew));exact HO_9.out)) (by decide) hg);have n2_:=am (hb);have n3_:=am (ho);clear BK215;clear HO218;clear HB;clear HO_9;have BK215:=n0_;have HO218:=n1_;have HB:=n2_;have HO221:=n3_;clear n0_ n1_ n2_ n3_;clear ho hb hg hat))
          go_roundg k1
          case measure=>have:=HK1.out;omega
          case rel=>exact ⟨(y216),(y219),(wrap64 (x18_1+1)),(by first|rfl|(simp;done)|(simp [*];done)),H',⟨by have:=HK1.out;omega⟩,⟨by (with_reducible repeat (first|apply Kd.R_alloc|apply Kd.R_drewN|apply Kd.R_drew));exact HO218.out⟩,⟨by (with_reducible repeat (first|apply Kd.R_alloc|apply Kd.R_drewN|apply Kd.R_drew));exact HO221.out⟩,⟨by repeat (first|(with_reducible first|exact HB.out|apply pa|apply pb|apply pd|refine pt ?_ GE215.out)|exact HB.out)⟩⟩
         ·rw [if_neg c11] at H
          exact absurd H (by simp)
        ·rw [if_neg c10] at H
         exact absurd H (by simp)
       ·rw [if_neg c9] at H
        exact absurd H (by simp)
      ·rw [if_neg c8] at H
       exact absurd H (by simp)
     ·rw [if_neg c7] at H
      have c7b0 : decide (x18_1 < (y210.length : Int))=false:=decide_eq_false c7
      clear c7
      replace H:=Option.bind_eq_some_iff.mp H
      obtain ⟨t222,A170,H⟩:=H
      replace H : ((spec_l3All.f k1 a1).bind fun t225=>((spec_l2Part.f k1 t222 x8_1 t225).bind fun t228=>((spec_l2Inverse.f t228).bind fun bt231=>(if bt231.2=true then ((spec_l3Rows.f k1 bt231.1 x9_1).bind fun t236=>(some (t236,true))) else (some (([] : List ByteArray),false))))))=some (r1,r2):=H
      have A17:=am A170
      clear A170
      replace H:=Option.bind_eq_some_iff.mp H
      obtain ⟨t225,A180,H⟩:=H
      replace H : ((spec_l2Part.f k1 t222 x8_1 t225).bind fun t228=>((spec_l2Inverse.f t228).bind fun bt231=>(if bt231.2=true then ((spec_l3Rows.f k1 bt231.1 x9_1).bind fun t236=>(some (t236,true))) else (some (([] : List ByteArray),false)))))=some (r1,r2):=H
      have A18:=am A180
      clear A180
      replace H:=Option.bind_eq_some_iff.mp H
      obtain ⟨t228,A190,H⟩:=H
      replace H : ((spec_l2Inverse.f t228).bind fun bt231=>(if bt231.2=true then ((spec_l3Rows.f k1 bt231.1 x9_1).bind fun t236=>(some (t236,true))) else (some (([] : List ByteArray),false))))=some (r1,r2):=H
      have A19:=am A190
      clear A190
      replace H:=Option.bind_eq_some_iff.mp H
      obtain ⟨⟨t231,t234⟩,A200,H⟩:=H
      replace H : (if t234=true then ((spec_l3Rows.f k1 t231 x9_1).bind fun t236=>(some (t236,true))) else (some (([] : List ByteArray),false)))=some (r1,r2):=H
      have A20:=am A200
      clear A200
      by_cases c21 : t234=true
      ·subst c21
       have H1 : ((spec_l3Rows.f k1 t231 x9_1).bind fun t236=>(some (t236,true)))=some (r1,r2):=by rw [if_pos rfl] at H;exact H
       clear H
       have H:=H1
       clear H1
       replace H:=Option.bind_eq_some_iff.mp H
       obtain ⟨t236,A220,H⟩:=H
       replace H : (some (t236,true))=some (r1,r2):=H
       have A22:=am A220
       clear A220
       simp only [Option.some.injEq,Prod.mk.injEq] at H
       obtain ⟨rfl,rfl⟩:=H
       go_wp2_with (first|((with_reducible refine gate_callee (f:=135) rfl ?_);refine goesL_ (some 36) rfl rfl Try.func135 (by kernel_rfl) rfl #[.int .i64 a1, .int .i64 a2] rfl (by (try simp only [List.map_toArray,List.map_cons,List.map_nil]);first|done|rfl|(simp only [List.length_drop,List.length_take];rfl)) ?_;(with_reducible refine (spec_l3Matrix.calls k1 a1 a2 t222 _ A17.out).mono ?_);rintro e w23 ⟨v223,rfl,ho0,hb⟩;refine ⟨_,rfl,?_⟩;have n0_:=am (Kd.R_below (by (with_reducible repeat (first|apply Kd.R_alloc|apply Kd.R_drewN|apply Kd.R_drew));exact HO_8.out) hb);have n1_:=am (Kd.R_below (by (with_reducible repeat (first|apply Kd.R_alloc|apply Kd.R_drewN|apply Kd.R_drew));exact HO_9.out) hb);have n2_:=am (Kd.N_lower (Kd.N_mono (ok':=fun k_=>some k_ ≠ (u8 : Value).ownBlock∧some k_ ≠ (u9 : Value).ownBlock) ho0 (fun k_ hk_=>⟨(Kd.fresh' (Kd.R_lt (by (with_reducible repeat (first|apply Kd.R_alloc|apply Kd.R_drewN|apply Kd.R_drew));exact HO_8.out)) k_ hk_),(Kd.fresh' (Kd.R_lt (by (with_reducible repeat (first|apply Kd.R_alloc|apply Kd.R_drewN|apply Kd.R_drew));exact HO_9.out)) k_ hk_)⟩)) (pz (by repeat (first|(with_reducible first|exact HB.out|apply pa|apply pb|apply pd)|exact HB.out))));have n3_:=am (pu (by repeat (first|(with_reducible first|exact HB.out|apply pa|apply pb|apply pd)|exact HB.out)) hb);clear HO_8;clear HO_9;clear HB;have HO_8:=n0_;have HO_9:=n1_;have HO224:=n2_;have HB:=n3_;clear n0_ n1_ n2_ n3_;(try clear hb);(try clear hb2);(try clear hk);(try clear hi);(try clear ho0))|((with_reducible refine gate_callee (f:=93) rfl ?_);refine goesL_ (some 39) rfl rfl Try.func93 (by kernel_rfl) rfl #[.int .i64 a1] rfl (by (try simp only [List.map_toArray,List.map_cons,List.map_nil]);first|done|rfl|(simp only [List.length_drop,List.length_take];rfl)) ?_;(with_reducible refine (spec_l3All.calls k1 a1 t225 _ A18.out).mono ?_);rintro e w24 ⟨v226,rfl,ho0,hb⟩;refine ⟨_,rfl,?_⟩;have n0_:=am (Kd.R_elder' (by (with_reducible repeat (first|apply Kd.R_alloc|apply Kd.R_drewN|apply Kd.R_drew));exact HO_8.out) (Kd.R_base ho0) hb);have n1_:=am (Kd.R_below (by (with_reducible repeat (first|apply Kd.R_alloc|apply Kd.R_drewN|apply Kd.R_drew));exact HO_9.out) hb);have n2_:=am (Kd.N_elder' (by (with_reducible repeat (first|apply Kd.N_alloc|apply Kd.N_drewN|apply Kd.N_drew));exact HO224.out) (Kd.R_base ho0) hb);have n3_:=am (Kd.R_lower (Kd.R_new' ho0 (Kd.R_lt (by (with_reducible repeat (first|apply Kd.R_alloc|apply Kd.R_drewN|apply Kd.R_drew));exact HO_8.out))) (pz (by repeat (first|(with_reducible first|exact HB.out|apply pa|apply pb|apply pd)|exact HB.out))));have n4_:=am (pu (by repeat (first|(with_reducible first|exact HB.out|apply pa|apply pb|apply pd)|exact HB.out)) hb);clear HO_8;clear HO_9;clear HO224;clear HB;have HO_8:=n0_;have HO_9:=n1_;have HO224:=n2_;have HO227:=n3_;have HB:=n4_;clear n0_ n1_ n2_ n3_ n4_;(try clear hb);(try clear hb2);(try clear hk);(try clear hi);(try clear ho0);obtain ⟨Ao25,co25,eo25⟩:=Kd.N_slice HO224.out;subst eo25;obtain ⟨Ao26,co26,eo26⟩:=Kd.R_slice HO_8.out;subst eo26;obtain ⟨Ao27,co27,eo27⟩:=Kd.R_slice HO227.out;subst eo27)|((with_reducible refine gate_callee (f:=92) rfl ?_);refine goesL_ (some 40) rfl rfl Try.func92 (by kernel_rfl) rfl #[.agg #[.slice Ao25 t222.length co25], .slice Ao26 x8_1.length co26, .slice Ao27 t225.length co27] rfl (by (try simp only [List.map_toArray,List.map_cons,List.map_nil]);first|done|rfl|(simp only [List.length_drop,List.length_take];rfl)) ?_;(with_reducible refine (spec_l2Part.calls k1 _ _ t222 _ _ x8_1 _ _ t225 t228 _ ?side1 ?side2 ?side3 ?side4 ?side5 ?side6 A19.out).mono ?_);(case side1=>repeat (first|exact (Kd.N_reads' HO224.out).2.2|(with_reducible refine Kd.C_alloc ?_ _)|(with_reducible refine Kd.C_drewN ?_ _)|(with_reducible refine Kd.C_drew ?_)));(case side2=>exact (Kd.N_reads' HO224.out).2.1);(case side3=>repeat (first|exact (Kd.R_reads' HO_8.out).2.2|(with_reducible refine Kd.C_alloc ?_ _)|(with_reducible refine Kd.C_drewN ?_ _)|(with_reducible refine Kd.C_drew ?_)));(case side4=>exact (Kd.R_reads' HO_8.out).2.1);(case side5=>repeat (first|exact (Kd.R_reads' HO227.out).2.2|(with_reducible refine Kd.C_alloc ?_ _)|(with_reducible refine Kd.C_drewN ?_ _)|(with_reducible refine Kd.C_drew ?_)));(case side6=>exact (Kd.R_reads' HO227.out).2.1);rintro e w28 ⟨v229,rfl,ho0,hb⟩;refine ⟨_,rfl,?_⟩;have n0_:=am (Kd.R_below (by (with_reducible repeat (first|apply Kd.R_alloc|apply Kd.R_drewN|apply Kd.R_drew));exact HO_8.out) hb);have n1_:=am (Kd.R_below (by (with_reducible repeat (first|apply Kd.R_alloc|apply Kd.R_drewN|apply Kd.R_drew));exact HO_9.out) hb);have n2_:=am (Kd.N_elder' (by (with_reducible repeat (first|apply Kd.N_alloc|apply Kd.N_drewN|apply Kd.N_drew));exact HO224.out) (by first|exact Kd.N_base ho0|exact Kd.S_base ho0|exact Kd.R_base ho0) hb);have n3_:=am (Kd.R_below (by (with_reducible repeat (first|apply Kd.R_alloc|apply Kd.R_drewN|apply Kd.R_drew));exact HO227.out) hb);have n4_:=am (Kd.N_lower (Kd.N_mono (ok':=fun k_=>some k_ ≠ (.slice Ao26 x8_1.length co26 : Value).ownBlock∧some k_ ≠ (u9 : Value).ownBlock∧some k_ ≠ (.slice Ao25 t222.length co25 : Value).ownBlock∧some k_ ≠ (.slice Ao27 t225.length co27 : Value).ownBlock) (Kd.S_N (Kd.S_bound ho0)) (fun k_ hk_=>⟨(Kd.fresh' (Kd.R_lt (by (with_reducible repeat (first|apply Kd.R_alloc|apply Kd.R_drewN|apply Kd.R_drew));exact HO_8.out)) k_ hk_.2.1),(Kd.fresh' (Kd.R_lt (by (with_reducible repeat (first|apply Kd.R_alloc|apply Kd.R_drewN|apply Kd.R_drew));exact HO_9.out)) k_ hk_.2.1),(Kd.fresh' (Kd.N_lt (by (with_reducible repeat (first|apply Kd.N_alloc|apply Kd.N_drewN|apply Kd.N_drew));exact HO224.out)) k_ hk_.2.1),(Kd.fresh' (Kd.R_lt (by (with_reducible repeat (first|apply Kd.R_alloc|apply Kd.R_drewN|apply Kd.R_drew));exact HO227.out)) k_ hk_.2.1)⟩)) (pz (by repeat (first|(with_reducible first|exact HB.out|apply pa|apply pb|apply pd)|exact HB.out))));have n5_:=am (pu (by repeat (first|(with_reducible first|exact HB.out|apply pa|apply pb|apply pd)|exact HB.out)) hb);clear HO_8;clear HO_9;clear HO224;clear HO227;clear HB;have HO_8:=n0_;have HO_9:=n1_;have HO224:=n2_;have HO227:=n3_;have HO230:=n4_;have HB:=n5_;clear n0_ n1_ n2_ n3_ n4_ n5_;(try clear hb);(try clear hb2);(try clear hk);(try clear hi);(try clear ho0);obtain ⟨Ao29,co29,eo29⟩:=Kd.N_slice HO230.out;subst eo29)|((with_reducible refine gate_callee (f:=91) rfl ?_);refine goesL_ (some 41) rfl rfl Try.func91 (by kernel_rfl) rfl #[.agg #[.slice Ao29 t228.length co29]] rfl (by (try simp only [List.map_toArray,List.map_cons,List.map_nil]);first|done|rfl|(simp only [List.length_drop,List.length_take];rfl)) ?_;(with_reducible refine (spec_l2Inverse.calls _ _ t228 t231 true _ ?side1 ?side2 A20.out).mono ?_);(case side1=>repeat (first|exact (Kd.N_reads' HO230.out).2.2|(with_reducible refine Kd.C_alloc ?_ _)|(with_reducible refine Kd.C_drewN ?_ _)|(with_reducible refine Kd.C_drew ?_)));(case side2=>exact (Kd.N_reads' HO230.out).2.1);rintro e w30 ⟨v232,rfl,ho0,hb⟩;refine ⟨_,rfl,?_⟩;have n0_:=am (Kd.R_below (by (with_reducible repeat (first|apply Kd.R_alloc|apply Kd.R_drewN|apply Kd.R_drew));exact HO_8.out) hb);have n1_:=am (Kd.R_below (by (with_reducible repeat (first|apply Kd.R_alloc|apply Kd.R_drewN|apply Kd.R_drew));exact HO_9.out) hb);have n2_:=am (Kd.N_elder' (by (with_reducible repeat (first|apply Kd.N_alloc|apply Kd.N_drewN|apply Kd.N_drew));exact HO224.out) (by first|exact Kd.N_base ho0|exact Kd.S_base ho0|exact Kd.R_base ho0) hb);have n3_:=am (Kd.R_below (by (with_reducible repeat (first|apply Kd.R_alloc|apply Kd.R_drewN|apply Kd.R_drew));exact HO227.out) hb);have n4_:=am (Kd.N_elder' (by (with_reducible repeat (first|apply Kd.N_alloc|apply Kd.N_drewN|apply Kd.N_drew));exact HO230.out) (by first|exact Kd.N_base ho0|exact Kd.S_base ho0|exact Kd.R_base ho0) hb);have n5_:=am (Kd.N_lower (Kd.N_mono (ok':=fun k_=>some k_ ≠ (.slice Ao26 x8_1.length co26 : Value).ownBlock∧some k_ ≠ (u9 : Value).ownBlock∧some k_ ≠ (.slice Ao25 t222.length co25 : Value).ownBlock∧some k_ ≠ (.slice Ao27 t225.length co27 : Value).ownBlock∧some k_ ≠ (.slice Ao29 t228.length co29 : Value).ownBlock) ho0 (fun k_ hk_=>⟨(Kd.fresh' (Kd.R_lt (by (with_reducible repeat (first|apply Kd.R_alloc|apply Kd.R_drewN|apply Kd.R_drew));exact HO_8.out)) k_ hk_),(Kd.fresh' (Kd.R_lt (by (with_reducible repeat (first|apply Kd.R_alloc|apply Kd.R_drewN|apply Kd.R_drew));exact HO_9.out)) k_ hk_),(Kd.fresh' (Kd.N_lt (by (with_reducible repeat (first|apply Kd.N_alloc|apply Kd.N_drewN|apply Kd.N_drew));exact HO224.out)) k_ hk_),(Kd.fresh' (Kd.R_lt (by (with_reducible repeat (first|apply Kd.R_alloc|apply Kd.R_drewN|apply Kd.R_drew));exact HO227.out)) k_ hk_),(Kd.fresh' (Kd.N_lt (by (with_reducible repeat (first|apply Kd.N_alloc|apply Kd.N_drewN|apply Kd.N_drew));exact HO230.out)) k_ hk_)⟩)) (pz (by repeat (first|(with_reducible first|exact HB.out|apply pa|apply pb|apply pd)|exact HB.out))));have n6_:=am (pu (by repeat (first|(with_reducible first|exact HB.out|apply pa|apply pb|apply pd)|exact HB.out)) hb);clear HO_8;clear HO_9;clear HO224;clear HO227;clear HO230;clear HB;have HO_8:=n0_;have HO_9:=n1_;have HO224:=n2_;have HO227:=n3_;have HO230:=n4_;have HO233:=n5_;have HB:=n6_;clear n0_ n1_ n2_ n3_ n4_ n5_ n6_;(try clear hb);(try clear hb2);(try clear hk);(try clear hi);(try clear ho0))|((with_reducible refine gate_dst (N:=12) rfl ?_);refine box_event ?hg (N:=12) ?hd (cs:=#[.slice none 0 0]) (t:=43) ?hr ?_;(case hd=>rfl);(case hg=>rfl);(case hr=>first|(go_simp;done)|(go_simp;rfl));intro gb235 hg w31 hbox hb;have n0_:=am (Kd.R_below (by (with_reducible repeat (first|apply Kd.R_alloc|apply Kd.R_drewN|apply Kd.R_drew));exact HO_8.out) hb);have n1_:=am (Kd.R_below (by (with_reducible repeat (first|apply Kd.R_alloc|apply Kd.R_drewN|apply Kd.R_drew));exact HO_9.out) hb);have n2_:=am (Kd.N_below (Kd.N_elderB (by (with_reducible repeat (first|apply Kd.N_alloc|apply Kd.N_drewN|apply Kd.N_drew));exact HO224.out) gb235 (Nat.le_of_eq hg.symm)) hb);have n3_:=am (Kd.R_below (by (with_reducible repeat (first|apply Kd.R_alloc|apply Kd.R_drewN|apply Kd.R_drew));exact HO227.out) hb);have n4_:=am (Kd.N_below (Kd.N_elderB (by (with_reducible repeat (first|apply Kd.N_alloc|apply Kd.N_drewN|apply Kd.N_drew));exact HO230.out) gb235 (Nat.le_of_eq hg.symm)) hb);have n5_:=am (Kd.N_below (Kd.N_elderB (by (with_reducible repeat (first|apply Kd.N_alloc|apply Kd.N_drewN|apply Kd.N_drew));exact HO233.out) gb235 (Nat.le_of_eq hg.symm)) hb);have n6_:=am (pu (by repeat (first|(with_reducible first|exact HB.out|apply pa|apply pb|apply pd)|exact HB.out)) hb);have n7_:=am (hbox);have n8_:=am ((by rw [hg];exact (pz (by repeat (first|(with_reducible first|exact HB.out|apply pa|apply pb|apply pd)|exact HB.out))) : w.heap.size≤gb235));have n9_:=am ((by rw [hg];exact (pz (by repeat (first|(with_reducible first|exact HB.out|apply pa|apply pb|apply pd)|exact HB.out))) : w.heap.size≤gb235));clear HO_8;clear HO_9;clear HO224;clear HO227;clear HO230;clear HO233;clear HB;have HO_8:=n0_;have HO_9:=n1_;have HO224:=n2_;have HO227:=n3_;have HO230:=n4_;have HO233:=n5_;have HB:=n6_;have BK235:=n7_;have GW235:=n8_;have GE235:=n9_;clear n0_ n1_ n2_ n3_ n4_ n5_ n6_ n7_ n8_ n9_;clear hb hbox hg;obtain ⟨Ao32,co32,eo32⟩:=Kd.N_slice HO233.out;subst eo32;have hcz33_0 : w31.cell? ⟨gb235,0,none⟩=some (.slice none 0 0):=(blk_cell BK235.out 0).trans rfl;have hfz33_0:=blk_frozen BK235.out 0;obtain ⟨Ao34,co34,eo34⟩:=Kd.R_slice HO_9.out;subst eo34)|((with_reducible refine gate_callee (f:=89) rfl ?_);refine goesL_ (some 48) rfl rfl Try.func89 (by kernel_rfl) rfl #[.agg #[.slice Ao32 t231.length co32], .slice Ao34 x9_1.length co34] rfl (by (try simp only [List.map_toArray,List.map_cons,List.map_nil]);first|done|rfl|(simp only [List.length_drop,List.length_take];rfl)) ?_;(with_reducible refine (spec_l3Rows.calls k1 _ _ t231 _ _ x9_1 t236 _ ?side1 ?side2 ?side3 ?side4 A22.out).mono ?_);(case side1=>refine (Kd.N_reads' (e:=57) (base:=w.heap.size) (ok:=fun k_=>((some k_ ≠ (.slice Ao26 x8_1.length co26 : Value).ownBlock∧(some k_ ≠ (.slice Ao34 x9_1.length co34 : Value).ownBlock∧(some k_ ≠ (.slice Ao25 t222.length co25 : Value).ownBlock∧(some k_ ≠ (.slice Ao27 t225.length co27 : Value).ownBlock∧some k_ ≠ (.slice Ao29 t228.length co29 : Value).ownBlock))))∧k_ ≠ gb235)) (n:=t231.length) (c:=co32) ?_).2.2;exact (by (with_reducible repeat (first|apply Kd.N_alloc|apply Kd.N_drewN|apply Kd.N_drew));exact (Kd.N_mono (Kd.N_far (p:=⟨gb235,0,none⟩) (Kd.N_mono HO233.out (fun k_ hk=>(⟨hk,hk.2⟩ : _∧k_ ≠ gb235))) (fun _ hk=>hk.2) (.slice Ao32 t231.length co32)) (fun _ h_=>h_.1))));(case side2=>exact (Kd.N_reads' HO233.out).2.1);(case side3=>refine (Kd.R_reads' (e:=9) (base:=w.heap.size) (ok:=fun k_=>True) (n:=x9_1.length) (c:=co34) ?_).2.2;exact (by (with_reducible repeat (first|apply Kd.R_alloc|apply Kd.R_drewN|apply Kd.R_drew));exact (Kd.R_mono (Kd.R_far (p:=⟨gb235,0,none⟩) (Kd.R_types HO_9.out BK235.out (by decide)) (fun _ hk=>hk.2) (.slice Ao32 t231.length co32)) (fun _ h_=>h_.1))));(case side4=>exact (Kd.R_reads' HO_9.out).2.1);rintro e w35 ⟨v237,rfl,ho0,hb⟩;refine ⟨_,rfl,?_⟩;have n0_:=am (Kd.R_below (by (with_reducible repeat (first|apply Kd.R_alloc|apply Kd.R_drewN|apply Kd.R_drew));exact (Kd.R_mono (Kd.R_far (p:=⟨gb235,0,none⟩) (Kd.R_types HO_8.out BK235.out (by decide)) (fun _ hk=>hk.2) (.slice Ao32 t231.length co32)) (fun _ h_=>h_.1))) hb);have n1_:=am (Kd.R_elder' (by (with_reducible repeat (first|apply Kd.R_alloc|apply Kd.R_drewN|apply Kd.R_drew));exact (Kd.R_mono (Kd.R_far (p:=⟨gb235,0,none⟩) (Kd.R_types HO_9.out BK235.out (by decide)) (fun _ hk=>hk.2) (.slice Ao32 t231.length co32)) (fun _ h_=>h_.1))) (Kd.R_base ho0) hb);have n2_:=am (Kd.N_elder' (by (with_reducible repeat (first|apply Kd.N_alloc|apply Kd.N_drewN|apply Kd.N_drew));exact (Kd.N_mono (Kd.N_far (p:=⟨gb235,0,none⟩) (Kd.N_mono HO224.out (fun k_ hk=>(⟨hk,hk.2⟩ : _∧k_ ≠ gb235))) (fun _ hk=>hk.2) (.slice Ao32 t231.length co32)) (fun _ h_=>h_.1))) (Kd.R_base ho0) hb);have n3_:=am (Kd.R_below (by (with_reducible repeat (first|apply Kd.R_alloc|apply Kd.R_drewN|apply Kd.R_drew));exact (Kd.R_mono (Kd.R_far (p:=⟨gb235,0,none⟩) (Kd.R_types HO227.out BK235.out (by decide)) (fun _ hk=>hk.2) (.slice Ao32 t231.length co32)) (fun _ h_=>h_.1))) hb);have n4_:=am (Kd.N_elder' (by (with_reducible repeat (first|apply Kd.N_alloc|apply Kd.N_drewN|apply Kd.N_drew));exact (Kd.N_mono (Kd.N_far (p:=⟨gb235,0,none⟩) (Kd.N_mono HO230.out (fun k_ hk=>(⟨hk,hk.2⟩ : _∧k_ ≠ gb235))) (fun _ hk=>hk.2) (.slice Ao32 t231.length co32)) (fun _ h_=>h_.1))) (Kd.R_base ho0) hb);have n5_:=am (Kd.N_elder' (by (with_reducible repeat (first|apply Kd.N_alloc|apply Kd.N_drewN|apply Kd.N_drew));exact (Kd.N_mono (Kd.N_far (p:=⟨gb235,0,none⟩) (Kd.N_mono HO233.out (fun k_ hk=>(⟨hk,hk.2⟩ : _∧k_ ≠ gb235))) (fun _ hk=>hk.2) (.slice Ao32 t231.length co32)) (fun _ h_=>h_.1))) (Kd.R_base ho0) hb);have n6_:=am (Kd.R_lower (Kd.R_new' ho0 (Kd.R_lt (by (with_reducible repeat (first|apply Kd.R_alloc|apply Kd.R_drewN|apply Kd.R_drew));exact (Kd.R_mono (Kd.R_far (p:=⟨gb235,0,none⟩) (Kd.R_types HO_9.out BK235.out (by decide)) (fun _ hk=>hk.2) (.slice Ao32 t231.length co32)) (fun _ h_=>h_.1))))) (pz (by repeat (first|(with_reducible first|exact HB.out|apply pa|apply pb|apply pd|refine pt ?_ GE235.out)|exact HB.out))));have n7_:=am (qb (g:=gb235) (o:=.cells #[.slice Ao32 t231.length co32] 43 (0,0)) (by (with_reducible repeat (first|refine qn ?_ _|refine qd ?_|refine qa ?_ _));refine blk_put (cs:=#[.slice none 0 0]) ?_ 0 _ rfl;(with_reducible repeat (first|refine qn ?_ _|refine qd ?_|refine qa ?_ _));exact BK235.out) hb);have n8_:=am (pu (by repeat (first|(with_reducible first|exact HB.out|apply pa|apply pb|apply pd|refine pt ?_ GE235.out)|exact HB.out)) hb);clear HO_8;clear HO_9;clear HO224;clear HO227;clear HO230;clear HO233;clear BK235;clear HB;have HO_8:=n0_;have HO_9:=n1_;have HO224:=n2_;have HO227:=n3_;have HO230:=n4_;have HO233:=n5_;have HO238:=n6_;have BK235:=n7_;have HB:=n8_;clear n0_ n1_ n2_ n3_ n4_ n5_ n6_ n7_ n8_;(try clear hb);(try clear hb2);(try clear hk);(try clear hi);(try clear ho0)))
       go_ret2
       exact ⟨_,by first|rfl|(simp [errW_none,errW_some] <;> rfl)|(simp [*,errW_none,errW_some] <;> rfl),by (with_reducible repeat (first|apply Kd.R_alloc|apply Kd.R_drewN|apply Kd.R_drew));exact Kd.R_mono HO238.out (fun _ hk=>trivial),by repeat (first|(with_reducible first|exact HB.out|apply pa|apply pb|apply pd|refine pt ?_ GE235.out)|exact HB.out)⟩
      ·replace c21:=Bool.eq_false_iff.mpr c21
       subst c21
       have H1 : (some (([] : List ByteArray),false))=some (r1,r2):=by rw [if_neg (show ¬ (false=true) by decide)] at H;exact H
       clear H
       have H:=H1
       clear H1
       simp only [Option.some.injEq,Prod.mk.injEq] at H
       obtain ⟨rfl,rfl⟩:=H
       go_wp2_with (first|((with_reducible refine gate_callee (f:=135) rfl ?_);refine goesL_ (some 36) rfl rfl Try.func135 (by kernel_rfl) rfl #[.int .i64 a1, .int .i64 a2] rfl (by (try simp only [List.map_toArray,List.map_cons,List.map_nil]);first|done|rfl|(simp only [List.length_drop,List.length_take];rfl)) ?_;(with_reducible refine (spec_l3Matrix.calls k1 a1 a2 t222 _ A17.out).mono ?_);rintro e w36 ⟨v223,rfl,ho0,hb⟩;refine ⟨_,rfl,?_⟩;have n0_:=am (Kd.R_below (by (with_reducible repeat (first|apply Kd.R_alloc|apply Kd.R_drewN|apply Kd.R_drew));exact HO_8.out) hb);have n1_:=am (Kd.R_below (by (with_reducible repeat (first|apply Kd.R_alloc|apply Kd.R_drewN|apply Kd.R_drew));exact HO_9.out) hb);have n2_:=am (Kd.N_lower (Kd.N_mono (ok':=fun k_=>some k_ ≠ (u8 : Value).ownBlock∧some k_ ≠ (u9 : Value).ownBlock) ho0 (fun k_ hk_=>⟨(Kd.fresh' (Kd.R_lt (by (with_reducible repeat (first|apply Kd.R_alloc|apply Kd.R_drewN|apply Kd.R_drew));exact HO_8.out)) k_ hk_),(Kd.fresh' (Kd.R_lt (by (with_reducible repeat (first|apply Kd.R_alloc|apply Kd.R_drewN|apply Kd.R_drew));exact HO_9.out)) k_ hk_)⟩)) (pz (by repeat (first|(with_reducible first|exact HB.out|apply pa|apply pb|apply pd)|exact HB.out))));have n3_:=am (pu (by repeat (first|(with_reducible first|exact HB.out|apply pa|apply pb|apply pd)|exact HB.out)) hb);clear HO_8;clear HO_9;clear HB;have HO_8:=n0_;have HO_9:=n1_;have HO224:=n2_;have HB:=n3_;clear n0_ n1_ n2_ n3_;(try clear hb);(try clear hb2);(try clear hk);(try clear hi);(try clear ho0))|((with_reducible refine gate_callee (f:=93) rfl ?_);refine goesL_ (some 39) rfl rfl Try.func93 (by kernel_rfl) rfl #[.int .i64 a1] rfl (by (try simp only [List.map_toArray,List.map_cons,List.map_nil]);first|done|rfl|(simp only [List.length_drop,List.length_take];rfl)) ?_;(with_reducible refine (spec_l3All.calls k1 a1 t225 _ A18.out).mono ?_);rintro e w37 ⟨v226,rfl,ho0,hb⟩;refine ⟨_,rfl,?_⟩;have n0_:=am (Kd.R_elder' (by (with_reducible repeat (first|apply Kd.R_alloc|apply Kd.R_drewN|apply Kd.R_drew));exact HO_8.out) (Kd.R_base ho0) hb);have n1_:=am (Kd.R_below (by (with_reducible repeat (first|apply Kd.R_alloc|apply Kd.R_drewN|apply Kd.R_drew));exact HO_9.out) hb);have n2_:=am (Kd.N_elder' (by (with_reducible repeat (first|apply Kd.N_alloc|apply Kd.N_drewN|apply Kd.N_drew));exact HO224.out) (Kd.R_base ho0) hb);have n3_:=am (Kd.R_lower (Kd.R_new' ho0 (Kd.R_lt (by (with_reducible repeat (first|apply Kd.R_alloc|apply Kd.R_drewN|apply Kd.R_drew));exact HO_8.out))) (pz (by repeat (first|(with_reducible first|exact HB.out|apply pa|apply pb|apply pd)|exact HB.out))));have n4_:=am (pu (by repeat (first|(with_reducible first|exact HB.out|apply pa|apply pb|apply pd)|exact HB.out)) hb);clear HO_8;clear HO_9;clear HO224;clear HB;have HO_8:=n0_;have HO_9:=n1_;have HO224:=n2_;have HO227:=n3_;have HB:=n4_;clear n0_ n1_ n2_ n3_ n4_;(try clear hb);(try clear hb2);(try clear hk);(try clear hi);(try clear ho0);obtain ⟨Ao38,co38,eo38⟩:=Kd.N_slice HO224.out;subst eo38;obtain ⟨Ao39,co39,eo39⟩:=Kd.R_slice HO_8.out;subst eo39;obtain ⟨Ao40,co40,eo40⟩:=Kd.R_slice HO227.out;subst eo40)|((with_reducible refine gate_callee (f:=92) rfl ?_);refine goesL_ (some 40) rfl rfl Try.func92 (by kernel_rfl) rfl #[.agg #[.slice Ao38 t222.length co38], .slice Ao39 x8_1.length co39, .slice Ao40 t225.length co40] rfl (by (try simp only [List.map_toArray,List.map_cons,List.map_nil]);first|done|rfl|(simp only [List.length_drop,List.length_take];rfl)) ?_;(with_reducible refine (spec_l2Part.calls k1 _ _ t222 _ _ x8_1 _ _ t225 t228 _ ?side1 ?side2 ?side3 ?side4 ?side5 ?side6 A19.out).mono ?_);(case side1=>repeat (first|exact (Kd.N_reads' HO224.out).2.2|(with_reducible refine Kd.C_alloc ?_ _)|(with_reducible refine Kd.C_drewN ?_ _)|(with_reducible refine Kd.C_drew ?_)));(case side2=>exact (Kd.N_reads' HO224.out).2.1);(case side3=>repeat (first|exact (Kd.R_reads' HO_8.out).2.2|(with_reducible refine Kd.C_alloc ?_ _)|(with_reducible refine Kd.C_drewN ?_ _)|(with_reducible refine Kd.C_drew ?_)));(case side4=>exact (Kd.R_reads' HO_8.out).2.1);(case side5=>repeat (first|exact (Kd.R_reads' HO227.out).2.2|(with_reducible refine Kd.C_alloc ?_ _)|(with_reducible refine Kd.C_drewN ?_ _)|(with_reducible refine Kd.C_drew ?_)));(case side6=>exact (Kd.R_reads' HO227.out).2.1);rintro e w41 ⟨v229,rfl,ho0,hb⟩;refine ⟨_,rfl,?_⟩;have n0_:=am (Kd.R_below (by (with_reducible repeat (first|apply Kd.R_alloc|apply Kd.R_drewN|apply Kd.R_drew));exact HO_8.out) hb);have n1_:=am (Kd.R_below (by (with_reducible repeat (first|apply Kd.R_alloc|apply Kd.R_drewN|apply Kd.R_drew));exact HO_9.out) hb);have n2_:=am (Kd.N_elder' (by (with_reducible repeat (first|apply Kd.N_alloc|apply Kd.N_drewN|apply Kd.N_drew));exact HO224.out) (by first|exact Kd.N_base ho0|exact Kd.S_base ho0|exact Kd.R_base ho0) hb);have n3_:=am (Kd.R_below (by (with_reducible repeat (first|apply Kd.R_alloc|apply Kd.R_drewN|apply Kd.R_drew));exact HO227.out) hb);have n4_:=am (Kd.N_lower (Kd.N_mono (ok':=fun k_=>some k_ ≠ (.slice Ao39 x8_1.length co39 : Value).ownBlock∧some k_ ≠ (u9 : Value).ownBlock∧some k_ ≠ (.slice Ao38 t222.length co38 : Value).ownBlock∧some k_ ≠ (.slice Ao40 t225.length co40 : Value).ownBlock) (Kd.S_N (Kd.S_bound ho0)) (fun k_ hk_=>⟨(Kd.fresh' (Kd.R_lt (by (with_reducible repeat (first|apply Kd.R_alloc|apply Kd.R_drewN|apply Kd.R_drew));exact HO_8.out)) k_ hk_.2.1),(Kd.fresh' (Kd.R_lt (by (with_reducible repeat (first|apply Kd.R_alloc|apply Kd.R_drewN|apply Kd.R_drew));exact HO_9.out)) k_ hk_.2.1),(Kd.fresh' (Kd.N_lt (by (with_reducible repeat (first|apply Kd.N_alloc|apply Kd.N_drewN|apply Kd.N_drew));exact HO224.out)) k_ hk_.2.1),(Kd.fresh' (Kd.R_lt (by (with_reducible repeat (first|apply Kd.R_alloc|apply Kd.R_drewN|apply Kd.R_drew));exact HO227.out)) k_ hk_.2.1)⟩)) (pz (by repeat (first|(with_reducible first|exact HB.out|apply pa|apply pb|apply pd)|exact HB.out))));have n5_:=am (pu (by repeat (first|(with_reducible first|exact HB.out|apply pa|apply pb|apply pd)|exact HB.out)) hb);clear HO_8;clear HO_9;clear HO224;clear HO227;clear HB;have HO_8:=n0_;have HO_9:=n1_;have HO224:=n2_;have HO227:=n3_;have HO230:=n4_;have HB:=n5_;clear n0_ n1_ n2_ n3_ n4_ n5_;(try clear hb);(try clear hb2);(try clear hk);(try clear hi);(try clear ho0);obtain ⟨Ao42,co42,eo42⟩:=Kd.N_slice HO230.out;subst eo42)|((with_reducible refine gate_callee (f:=91) rfl ?_);refine goesL_ (some 41) rfl rfl Try.func91 (by kernel_rfl) rfl #[.agg #[.slice Ao42 t228.length co42]] rfl (by (try simp only [List.map_toArray,List.map_cons,List.map_nil]);first|done|rfl|(simp only [List.length_drop,List.length_take];rfl)) ?_;(with_reducible refine (spec_l2Inverse.calls _ _ t228 t231 false _ ?side1 ?side2 A20.out).mono ?_);(case side1=>repeat (first|exact (Kd.N_reads' HO230.out).2.2|(with_reducible refine Kd.C_alloc ?_ _)|(with_reducible refine Kd.C_drewN ?_ _)|(with_reducible refine Kd.C_drew ?_)));(case side2=>exact (Kd.N_reads' HO230.out).2.1);rintro e w43 ⟨v232,rfl,ho0,hb⟩;refine ⟨_,rfl,?_⟩;have n0_:=am (Kd.R_below (by (with_reducible repeat (first|apply Kd.R_alloc|apply Kd.R_drewN|apply Kd.R_drew));exact HO_8.out) hb);have n1_:=am (Kd.R_below (by (with_reducible repeat (first|apply Kd.R_alloc|apply Kd.R_drewN|apply Kd.R_drew));exact HO_9.out) hb);have n2_:=am (Kd.N_elder' (by (with_reducible repeat (first|apply Kd.N_alloc|apply Kd.N_drewN|apply Kd.N_drew));exact HO224.out) (by first|exact Kd.N_base ho0|exact Kd.S_base ho0|exact Kd.R_base ho0) hb);have n3_:=am (Kd.R_below (by (with_reducible repeat (first|apply Kd.R_alloc|apply Kd.R_drewN|apply Kd.R_drew));exact HO227.out) hb);have n4_:=am (Kd.N_elder' (by (with_reducible repeat (first|apply Kd.N_alloc|apply Kd.N_drewN|apply Kd.N_drew));exact HO230.out) (by first|exact Kd.N_base ho0|exact Kd.S_base ho0|exact Kd.R_base ho0) hb);have n5_:=am (Kd.N_lower (Kd.N_mono (ok':=fun k_=>some k_ ≠ (.slice Ao39 x8_1.length co39 : Value).ownBlock∧some k_ ≠ (u9 : Value).ownBlock∧some k_ ≠ (.slice Ao38 t222.length co38 : Value).ownBlock∧some k_ ≠ (.slice Ao40 t225.length co40 : Value).ownBlock∧some k_ ≠ (.slice Ao42 t228.length co42 : Value).ownBlock) ho0 (fun k_ hk_=>⟨(Kd.fresh' (Kd.R_lt (by (with_reducible repeat (first|apply Kd.R_alloc|apply Kd.R_drewN|apply Kd.R_drew));exact HO_8.out)) k_ hk_),(Kd.fresh' (Kd.R_lt (by (with_reducible repeat (first|apply Kd.R_alloc|apply Kd.R_drewN|apply Kd.R_drew));exact HO_9.out)) k_ hk_),(Kd.fresh' (Kd.N_lt (by (with_reducible repeat (first|apply Kd.N_alloc|apply Kd.N_drewN|apply Kd.N_drew));exact HO224.out)) k_ hk_),(Kd.fresh' (Kd.R_lt (by (with_reducible repeat (first|apply Kd.R_alloc|apply Kd.R_drewN|apply Kd.R_drew));exact HO227.out)) k_ hk_),(Kd.fresh' (Kd.N_lt (by (with_reducible repeat (first|apply Kd.N_alloc|apply Kd.N_drewN|apply Kd.N_drew));exact HO230.out)) k_ hk_)⟩)) (pz (by repeat (first|(with_reducible first|exact HB.out|apply pa|apply pb|apply pd)|exact HB.out))));have n6_:=am (pu (by repeat (first|(with_reducible first|exact HB.out|apply pa|apply pb|apply pd)|exact HB.out)) hb);clear HO_8;clear HO_9;clear HO224;clear HO227;clear HO230;clear HB;have HO_8:=n0_;have HO_9:=n1_;have HO224:=n2_;have HO227:=n3_;have HO230:=n4_;have HO233:=n5_;have HB:=n6_;clear n0_ n1_ n2_ n3_ n4_ n5_ n6_;(try clear hb);(try clear hb2);(try clear hk);(try clear hi);(try clear ho0))|((with_reducible refine gate_dst (N:=12) rfl ?_);refine box_event ?hg (N:=12) ?hd (cs:=#[.slice none 0 0]) (t:=43) ?hr ?_;(case hd=>rfl);(case hg=>rfl);(case hr=>first|(go_simp;done)|(go_simp;rfl));intro gb235 hg w44 hbox hb;have n0_:=am (Kd.R_below (by (with_reducible repeat (first|apply Kd.R_alloc|apply Kd.R_drewN|apply Kd.R_drew));exact HO_8.out) hb);have n1_:=am (Kd.R_below (by (with_reducible repeat (first|apply Kd.R_alloc|apply Kd.R_drewN|apply Kd.R_drew));exact HO_9.out) hb);have n2_:=am (Kd.N_below (Kd.N_elderB (by (with_reducible repeat (first|apply Kd.N_alloc|apply Kd.N_drewN|apply Kd.N_drew));exact HO224.out) gb235 (Nat.le_of_eq hg.symm)) hb);have n3_:=am (Kd.R_below (by (with_reducible repeat (first|apply Kd.R_alloc|apply Kd.R_drewN|apply Kd.R_drew));exact HO227.out) hb);have n4_:=am (Kd.N_below (Kd.N_elderB (by (with_reducible repeat (first|apply Kd.N_alloc|apply Kd.N_drewN|apply Kd.N_drew));exact HO230.out) gb235 (Nat.le_of_eq hg.symm)) hb);have n5_:=am (Kd.N_below (Kd.N_elderB (by (with_reducible repeat (first|apply Kd.N_alloc|apply Kd.N_drewN|apply Kd.N_drew));exact HO233.out) gb235 (Nat.le_of_eq hg.symm)) hb);have n6_:=am (pu (by repeat (first|(with_reducible first|exact HB.out|apply pa|apply pb|apply pd)|exact HB.out)) hb);have n7_:=am (hbox);have n8_:=am ((by rw [hg];exact (pz (by repeat (first|(with_reducible first|exact HB.out|apply pa|apply pb|apply pd)|exact HB.out))) : w.heap.size≤gb235));have n9_:=am ((by rw [hg];exact (pz (by repeat (first|(with_reducible first|exact HB.out|apply pa|apply pb|apply pd)|exact HB.out))) : w.heap.size≤gb235));clear HO_8;clear HO_9;clear HO224;clear HO227;clear HO230;clear HO233;clear HB;have HO_8:=n0_;have HO_9:=n1_;have HO224:=n2_;have HO227:=n3_;have HO230:=n4_;have HO233:=n5_;have HB:=n6_;have BK235:=n7_;have GW235:=n8_;have GE235:=n9_;clear n0_ n1_ n2_ n3_ n4_ n5_ n6_ n7_ n8_ n9_;clear hb hbox hg;obtain ⟨Ao45,co45,eo45⟩:=Kd.N_slice HO233.out;subst eo45;have hcz46_0 : w44.cell? ⟨gb235,0,none⟩=some (.slice none 0 0):=(blk_cell BK235.out 0).trans rfl;have hfz46_0:=blk_frozen BK235.out 0))
       go_ret2
       exact ⟨_,by first|rfl|(simp [errW_none,errW_some] <;> rfl)|(simp [*,errW_none,errW_some] <;> rfl),by first|exact Kd.R_nil _ _ _ _ _|exact Kd.N_nil _ _ _ _ _|exact Kd.V_nil _ _ _ _ _|exact Kd.Q_nil _ _ _ _ _|exact Kd.S_nil _ _ _ _ _,by repeat (first|(with_reducible first|exact HB.out|apply pa|apply pb|apply pd|refine pt ?_ GE235.out)|exact HB.out)⟩
  ·rw [if_neg c5] at H
   exact absurd H (by simp)
 ·rw [if_neg c4] at H
  exact absurd H (by simp)

def spec_DecodeShards.f (k : Nat) (l0 : List (S84)) (a1 : Int) (a2 : Int) : Option (List ByteArray × Bool):=(spec_GoodShape.f a1 a2).bind fun t239=>(if t239=true then ((spec_l3Shards.f k l0 (wrap64 (a1+a2))).bind fun t240=>(if t240=true then (if (l0.length : Int) < a1 then (some (([] : List ByteArray),false)) else ((spec_l3Decode.f k l0 a1 a2).bind fun bt241=>(some (bt241.1,bt241.2)))) else (some (([] : List ByteArray),false)))) else (some (([] : List ByteArray),false)))
theorem spec_DecodeShards.mono : ∀ a0 a1 a2 k,LeO (spec_DecodeShards.f k a0 a1 a2) (spec_DecodeShards.f (k+1) a0 a1 a2):=by
 intro a0 a1 a2 k
 unfold spec_DecodeShards.f
 repeat' first
   | (with_reducible exact spec_l3Decode.mono _ _ _ _)
   | (with_reducible exact spec_l3Shards.mono _ _ _)
   | (with_reducible exact LeO.refl _)
   | (with_reducible exact LeO.none _)
   | (with_reducible refine LeO.ite ?_ ?_)
   | (with_reducible refine LeO.bind ?_ (fun _=>?_))
   | exact spec_l3Decode.mono _ _ _ _
   | exact spec_l3Shards.mono _ _ _
   | exact LeO.none _
   | refine LeO.ite ?_ ?_
   | refine LeO.bind ?_ (fun _=>?_)
set_option maxHeartbeats 8000000 in
set_option maxRecDepth 100000 in
theorem spec_DecodeShards.calls (k : Nat) (A0 : Option Addr) (c0 : Nat) (l0 : List (S84)) (a1 : Int) (a2 : Int) (r1 : List ByteArray) (r2 : Bool) (w : World) (hr0 : Kd.C k84 w A0 l0.length l0) (hc0 : l0.length≤c0) (h : spec_DecodeShards.f k l0 a1 a2=some (r1,r2)) :
  Calls Try.prog 61 #[.slice A0 l0.length c0, .int .i64 a1, .int .i64 a2] w fun e w'=>∃ v0_ : Value,e = .returned (.tuple #[v0_, .bool r2])∧Kd.R Kd.string 9 w' w.heap.size (fun _=>True) v0_ r1∧Below w.heap.size w w':=by
 have HR0:=am hr0
 have HC0:=am hc0
 clear hr0 hc0
 have HB:=am (Below.refl w.heap.size w)
 have H : ((spec_GoodShape.f a1 a2).bind fun t239=>(if t239=true then ((spec_l3Shards.f k l0 (wrap64 (a1+a2))).bind fun t240=>(if t240=true then (if (l0.length : Int) < a1 then (some (([] : List ByteArray),false)) else ((spec_l3Decode.f k l0 a1 a2).bind fun bt241=>(some (bt241.1,bt241.2)))) else (some (([] : List ByteArray),false)))) else (some (([] : List ByteArray),false))))=some (r1,r2):=h
 clear h
 replace H:=Option.bind_eq_some_iff.mp H
 obtain ⟨t239,A40,H⟩:=H
 replace H : (if t239=true then ((spec_l3Shards.f k l0 (wrap64 (a1+a2))).bind fun t240=>(if t240=true then (if (l0.length : Int) < a1 then (some (([] : List ByteArray),false)) else ((spec_l3Decode.f k l0 a1 a2).bind fun bt241=>(some (bt241.1,bt241.2)))) else (some (([] : List ByteArray),false)))) else (some (([] : List ByteArray),false)))=some (r1,r2):=H
 have A4:=am A40
 clear A40
 by_cases c5 : t239=true
 ·subst c5
  have H1 : ((spec_l3Shards.f k l0 (wrap64 (a1+a2))).bind fun t240=>(if t240=true then (if (l0.length : Int) < a1 then (some (([] : List ByteArray),false)) else ((spec_l3Decode.f k l0 a1 a2).bind fun bt241=>(some (bt241.1,bt241.2)))) else (some (([] : List ByteArray),false))))=some (r1,r2):=by rw [if_pos rfl] at H;exact H
  clear H
  have H:=H1
  clear H1
  replace H:=Option.bind_eq_some_iff.mp H
  obtain ⟨t240,A60,H⟩:=H
  replace H : (if t240=true then (if (l0.length : Int) < a1 then (some (([] : List ByteArray),false)) else ((spec_l3Decode.f k l0 a1 a2).bind fun bt241=>(some (bt241.1,bt241.2)))) else (some (([] : List ByteArray),false)))=some (r1,r2):=H
  have A6:=am A60
  clear A60
  by_cases c7 : t240=true
  ·subst c7
   have H1 : (if (l0.length : Int) < a1 then (some (([] : List ByteArray),false)) else ((spec_l3Decode.f k l0 a1 a2).bind fun bt241=>(some (bt241.1,bt241.2))))=some (r1,r2):=by rw [if_pos rfl] at H;exact H
   clear H
   have H:=H1
   clear H1
   by_cases c8 : (l0.length : Int) < a1
   ·rw [if_pos c8] at H
    have c8b0 : decide ((l0.length : Int) < a1)=true:=decide_eq_true c8
    clear c8
    simp only [Option.some.injEq,Prod.mk.injEq] at H
    obtain ⟨rfl,rfl⟩:=H
    go_enter Try.func61,Try.ntmps61
    go_wp2_with (first|((with_reducible refine gate_callee (f:=141) rfl ?_);refine goesL_ (some 10) rfl rfl Try.func141 (by kernel_rfl) rfl #[.int .i64 a1, .int .i64 a2] rfl (by (try simp only [List.map_toArray,List.map_cons,List.map_nil]);first|done|rfl|(simp only [List.length_drop,List.length_take];rfl)) ?_;(with_reducible refine (spec_GoodShape.calls a1 a2 true _ A4.out).mono ?_);rintro e w' ⟨rfl,⟨nd,rfl⟩⟩;refine ⟨_,rfl,?_⟩)|(go_at_call 142;(with_reducible refine (spec_l3Shards.calls k _ _ l0 (wrap64 (a1+a2)) true _ ?side1 ?side2 A6.out).mono ?_);(case side1=>repeat (first|exact HR0.out|(with_reducible refine Kd.C_alloc ?_ _)|(with_reducible refine Kd.C_drewN ?_ _)|(with_reducible refine Kd.C_drew ?_)));(case side2=>exact HC0.out);rintro e w9 ⟨rfl,hb⟩;have n0_:=am (pu (by repeat (first|(with_reducible first|exact HB.out|apply pa|apply pb|apply pd)|exact HB.out)) hb);clear HB;have HB:=n0_;clear n0_;(try clear hb);(try clear hb2);(try clear hk);(try clear hi)))
    go_ret2
    exact ⟨_,by first|rfl|(simp [errW_none,errW_some] <;> rfl)|(simp [*,errW_none,errW_some] <;> rfl),by first|exact Kd.R_nil _ _ _ _ _|exact Kd.N_nil _ _ _ _ _|exact Kd.V_nil _ _ _ _ _|exact Kd.Q_nil _ _ _ _ _|exact Kd.S_nil _ _ _ _ _,by repeat (first|(with_reducible first|exact HB.out|apply pa|apply pb|apply pd)|exact HB.out)⟩
   ·rw [if_neg c8] at H
    have c8b0 : decide ((l0.length : Int) < a1)=false:=decide_eq_false c8
    clear c8
    replace H:=Option.bind_eq_some_iff.mp H
    obtain ⟨⟨t241,t242⟩,A100,H⟩:=H
    replace H : (some (t241,t242))=some (r1,r2):=H
    have A10:=am A100
    clear A100
    simp only [Option.some.injEq,Prod.mk.injEq] at H
    obtain ⟨rfl,rfl⟩:=H
    go_enter Try.func61,Try.ntmps61
    go_wp2_with (first|((with_reducible refine gate_callee (f:=141) rfl ?_);refine goesL_ (some 10) rfl rfl Try.func141 (by kernel_rfl) rfl #[.int .i64 a1, .int .i64 a2] rfl (by (try simp only [List.map_toArray,List.map_cons,List.map_nil]);first|done|rfl|(simp only [List.length_drop,List.length_take];rfl)) ?_;(with_reducible refine (spec_GoodShape.calls a1 a2 true _ A4.out).mono ?_);rintro e w' ⟨rfl,⟨nd,rfl⟩⟩;refine ⟨_,rfl,?_⟩)|(go_at_call 142;(with_reducible refine (spec_l3Shards.calls k _ _ l0 (wrap64 (a1+a2)) true _ ?side1 ?side2 A6.out).mono ?_);(case side1=>repeat (first|exact HR0.out|(with_reducible refine Kd.C_alloc ?_ _)|(with_reducible refine Kd.C_drewN ?_ _)|(with_reducible refine Kd.C_drew ?_)));(case side2=>exact HC0.out);rintro e w11 ⟨rfl,hb⟩;have n0_:=am (pu (by repeat (first|(with_reducible first|exact HB.out|apply pa|apply pb|apply pd)|exact HB.out)) hb);clear HB;have HB:=n0_;clear n0_;(try clear hb);(try clear hb2);(try clear hk);(try clear hi))|((with_reducible refine gate_callee (f:=143) rfl ?_);refine goesL_ (some 29) rfl rfl Try.func143 (by kernel_rfl) rfl #[.slice A0 l0.length c0, .int .i64 a1, .int .i64 a2] rfl (by (try simp only [List.map_toArray,List.map_cons,List.map_nil]);first|done|rfl|(simp only [List.length_drop,List.length_take];rfl)) ?_;(with_reducible refine (spec_l3Decode.calls k _ _ l0 a1 a2 t241 t242 _ ?side1 ?side2 A10.out).mono ?_);(case side1=>repeat (first|exact (Kd.C_below HR0.out HB.out)|(with_reducible refine Kd.C_alloc ?_ _)|(with_reducible refine Kd.C_drewN ?_ _)|(with_reducible refine Kd.C_drew ?_)));(case side2=>exact HC0.out);rintro e w12 ⟨v243,rfl,ho0,hb⟩;refine ⟨_,rfl,?_⟩;have n0_:=am (Kd.R_lower ho0 (pz (by repeat (first|(with_reducible first|exact HB.out|apply pa|apply pb|apply pd)|exact HB.out))));have n1_:=am (pu (by repeat (first|(with_reducible first|exact HB.out|apply pa|apply pb|apply pd)|exact HB.out)) hb);clear HB;have HO244:=n0_;have HB:=n1_;clear n0_ n1_;(try clear hb);(try clear hb2);(try clear hk);(try clear hi);(try clear ho0)))
    go_ret2
    exact ⟨_,by first|rfl|(simp [errW_none,errW_some] <;> rfl)|(simp [*,errW_none,errW_some] <;> rfl),by (with_reducible repeat (first|apply Kd.R_alloc|apply Kd.R_drewN|apply Kd.R_drew));exact HO244.out,by repeat (first|(with_reducible first|exact HB.out|apply pa|apply pb|apply pd)|exact HB.out)⟩
  ·replace c7:=Bool.eq_false_iff.mpr c7
   subst c7
   have H1 : (some (([] : List ByteArray),false))=some (r1,r2):=by rw [if_neg (show ¬ (false=true) by decide)] at H;exact H
   clear H
   have H:=H1
   clear H1
   simp only [Option.some.injEq,Prod.mk.injEq] at H
   obtain ⟨rfl,rfl⟩:=H
   go_enter Try.func61,Try.ntmps61
   go_wp2_with (first|((with_reducible refine gate_callee (f:=141) rfl ?_);refine goesL_ (some 10) rfl rfl Try.func141 (by kernel_rfl) rfl #[.int .i64 a1, .int .i64 a2] rfl (by (try simp only [List.map_toArray,List.map_cons,List.map_nil]);first|done|rfl|(simp only [List.length_drop,List.length_take];rfl)) ?_;(with_reducible refine (spec_GoodShape.calls a1 a2 true _ A4.out).mono ?_);rintro e w' ⟨rfl,⟨nd,rfl⟩⟩;refine ⟨_,rfl,?_⟩)|(go_at_call 142;(with_reducible refine (spec_l3Shards.calls k _ _ l0 (wrap64 (a1+a2)) false _ ?side1 ?side2 A6.out).mono ?_);(case side1=>repeat (first|exact HR0.out|(with_reducible refine Kd.C_alloc ?_ _)|(with_reducible refine Kd.C_drewN ?_ _)|(with_reducible refine Kd.C_drew ?_)));(case side2=>exact HC0.out);rintro e w13 ⟨rfl,hb⟩;have n0_:=am (pu (by repeat (first|(with_reducible first|exact HB.out|apply pa|apply pb|apply pd)|exact HB.out)) hb);clear HB;have HB:=n0_;clear n0_;(try clear hb);(try clear hb2);(try clear hk);(try clear hi)))
   go_ret2
   exact ⟨_,by first|rfl|(simp [errW_none,errW_some] <;> rfl)|(simp [*,errW_none,errW_some] <;> rfl),by first|exact Kd.R_nil _ _ _ _ _|exact Kd.N_nil _ _ _ _ _|exact Kd.V_nil _ _ _ _ _|exact Kd.Q_nil _ _ _ _ _|exact Kd.S_nil _ _ _ _ _,by repeat (first|(with_reducible first|exact HB.out|apply pa|apply pb|apply pd)|exact HB.out)⟩
 ·replace c5:=Bool.eq_false_iff.mpr c5
  subst c5
  have H1 : (some (([] : List ByteArray),false))=some (r1,r2):=by rw [if_neg (show ¬ (false=true) by decide)] at H;exact H
  clear H
  have H:=H1
  clear H1
  simp only [Option.some.injEq,Prod.mk.injEq] at H
  obtain ⟨rfl,rfl⟩:=H
  go_enter Try.func61,Try.ntmps61
  go_wp2_with (first|((with_reducible refine gate_callee (f:=141) rfl ?_);refine goesL_ (some 10) rfl rfl Try.func141 (by kernel_rfl) rfl #[.int .i64 a1, .int .i64 a2] rfl (by (try simp only [List.map_toArray,List.map_cons,List.map_nil]);first|done|rfl|(simp only [List.length_drop,List.length_take];rfl)) ?_;(with_reducible refine (spec_GoodShape.calls a1 a2 false _ A4.out).mono ?_);rintro e w' ⟨rfl,⟨nd,rfl⟩⟩;refine ⟨_,rfl,?_⟩))
  go_ret2
  exact ⟨_,by first|rfl|(simp [errW_none,errW_some] <;> rfl)|(simp [*,errW_none,errW_some] <;> rfl),by first|exact Kd.R_nil _ _ _ _ _|exact Kd.N_nil _ _ _ _ _|exact Kd.V_nil _ _ _ _ _|exact Kd.Q_nil _ _ _ _ _|exact Kd.S_nil _ _ _ _ _,by repeat (first|(with_reducible first|exact HB.out|apply pa|apply pb|apply pd)|exact HB.out)⟩

def spec_RebuildShard.j0 : Nat→Int→Int→Int→List ByteArray→Bool→Option (Int × ByteArray × Bool)
 | 0,_,_,_,_,_=>none
 | k+1,x1,x2,x3,x10,x29=>if x29=true then (some (0,(⟨#[]⟩ : ByteArray),false)) else ((spec_l3Matrix.f k x1 x2).bind fun t251=>((spec_l3Rows.f k t251 x10).bind fun t254=>(if 0≤x3 then (if x3 < (t254.length : Int) then (some (x3,rdOf ByteArray.empty t254 x3,true)) else (none)) else (none))))
def spec_RebuildShard.f (k : Nat) (l0 : List (S84)) (a1 : Int) (a2 : Int) (a3 : Int) : Option (Int × ByteArray × Bool):=(spec_DecodeShards.f k l0 a1 a2).bind fun bt246=>(if bt246.2=true then ((spec_l1In.f a3 0 (wrap64 ((wrap64 (a1+a2)) - 1))).bind fun t250=>(spec_RebuildShard.j0 k a1 a2 a3 bt246.1 (!t250))) else (spec_RebuildShard.j0 k a1 a2 a3 bt246.1 true))
theorem spec_RebuildShard.mono_l : ∀ k,(∀ y0 y1 y2 y3 y4,LeO (spec_RebuildShard.j0 k y0 y1 y2 y3 y4) (spec_RebuildShard.j0 (k+1) y0 y1 y2 y3 y4))
 | 0=>fun _ _ _ _ _ r h=>by simp [spec_RebuildShard.j0] at h
 | k+1=>by
  have ih0:=spec_RebuildShard.mono_l k
  ·intro y0 y1 y2 y3 y4
   unfold spec_RebuildShard.j0
   repeat' first
   | (with_reducible exact ih0 _ _ _ _ _)
   | (with_reducible exact spec_DecodeShards.mono _ _ _ _)
   | (with_reducible exact spec_l3Matrix.mono _ _ _)
   | (with_reducible exact spec_l3Rows.mono _ _ _)
   | (with_reducible exact LeO.refl _)
   | (with_reducible exact LeO.none _)
   | (with_reducible refine LeO.ite ?_ ?_)
   | (with_reducible refine LeO.bind ?_ (fun _=>?_))
   | exact ih0 _ _ _ _ _
   | exact spec_DecodeShards.mono _ _ _ _
   | exact spec_l3Matrix.mono _ _ _
   | exact spec_l3Rows.mono _ _ _
   | exact LeO.none _
   | refine LeO.ite ?_ ?_
   | refine LeO.bind ?_ (fun _=>?_)
theorem spec_RebuildShard.mono : ∀ a0 a1 a2 a3 k,LeO (spec_RebuildShard.f k a0 a1 a2 a3) (spec_RebuildShard.f (k+1) a0 a1 a2 a3):=by
 intro a0 a1 a2 a3 k
 have ih0:=spec_RebuildShard.mono_l k
 unfold spec_RebuildShard.f
 repeat' first
   | (with_reducible exact ih0 _ _ _ _ _)
   | (with_reducible exact spec_DecodeShards.mono _ _ _ _)
   | (with_reducible exact spec_l3Matrix.mono _ _ _)
   | (with_reducible exact spec_l3Rows.mono _ _ _)
   | (with_reducible exact LeO.refl _)
   | (with_reducible exact LeO.none _)
   | (with_reducible refine LeO.ite ?_ ?_)
   | (with_reducible refine LeO.bind ?_ (fun _=>?_))
   | exact ih0 _ _ _ _ _
   | exact spec_DecodeShards.mono _ _ _ _
   | exact spec_l3Matrix.mono _ _ _
   | exact spec_l3Rows.mono _ _ _
   | exact LeO.none _
   | refine LeO.ite ?_ ?_
   | refine LeO.bind ?_ (fun _=>?_)
set_option maxHeartbeats 8000000 in
set_option maxRecDepth 100000 in
theorem spec_RebuildShard.calls (k : Nat) (A0 : Option Addr) (c0 : Nat) (l0 : List (S84)) (a1 : Int) (a2 : Int) (a3 : Int) (r1 : Int) (r2 : ByteArray) (r3 : Bool) (w : World) (hr0 : Kd.C k84 w A0 l0.length l0) (hc0 : l0.length≤c0) (h : spec_RebuildShard.f k l0 a1 a2 a3=some (r1,r2,r3)) :
  Calls Try.prog 54 #[.slice A0 l0.length c0, .int .i64 a1, .int .i64 a2, .int .i64 a3] w fun e w'=>e = .returned (.tuple #[.agg #[.int .i64 r1, .string r2], .bool r3])∧Below w.heap.size w w':=by
 have hu84:=Try.underlying84
 have HR0:=am hr0
 have HC0:=am hc0
 clear hr0 hc0
 have HB:=am (Below.refl w.heap.size w)
 have H : ((spec_DecodeShards.f k l0 a1 a2).bind fun bt246=>(if bt246.2=true then ((spec_l1In.f a3 0 (wrap64 ((wrap64 (a1+a2)) - 1))).bind fun t250=>(spec_RebuildShard.j0 k a1 a2 a3 bt246.1 (!t250))) else (spec_RebuildShard.j0 k a1 a2 a3 bt246.1 true)))=some (r1,r2,r3):=h
 clear h
 replace H:=Option.bind_eq_some_iff.mp H
 obtain ⟨⟨t246,t247⟩,A50,H⟩:=H
 replace H : (if t247=true then ((spec_l1In.f a3 0 (wrap64 ((wrap64 (a1+a2)) - 1))).bind fun t250=>(spec_RebuildShard.j0 k a1 a2 a3 t246 (!t250))) else (spec_RebuildShard.j0 k a1 a2 a3 t246 true))=some (r1,r2,r3):=H
 have A5:=am A50
 clear A50
 have HC6:=am H
 clear H
 go_enter Try.func54,Try.ntmps54
 go_upto_region 2 with (first|((with_reducible refine gate_dst (N:=8) rfl ?_);refine box_event ?hg (N:=8) ?hd (cs:=#[.int .i64 0, .string (⟨#[]⟩ : ByteArray)]) (t:=84) ?hr ?_;(case hd=>rfl);(case hg=>rfl);(case hr=>first|(go_simp;done)|(go_simp;rfl));intro gb245 hg w7 hbox hb;have n0_:=am (pu (by repeat (first|(with_reducible first|exact HB.out|apply pa|apply pb|apply pd)|exact HB.out)) hb);have n1_:=am (hbox);have n2_:=am ((by rw [hg];exact (pz (by repeat (first|(with_reducible first|exact HB.out|apply pa|apply pb|apply pd)|exact HB.out))) : w.heap.size≤gb245));have n3_:=am ((by rw [hg];exact (pz (by repeat (first|(with_reducible first|exact HB.out|apply pa|apply pb|apply pd)|exact HB.out))) : w.heap.size≤gb245));clear HB;have HB:=n0_;have BK245:=n1_;have GW245:=n2_;have GE245:=n3_;clear n0_ n1_ n2_ n3_;clear hb hbox hg)|((with_reducible refine gate_callee (f:=61) rfl ?_);refine goesL_ (some 16) rfl rfl Try.func61 (by kernel_rfl) rfl #[.slice A0 l0.length c0, .int .i64 a1, .int .i64 a2] rfl (by (try simp only [List.map_toArray,List.map_cons,List.map_nil]);first|done|rfl|(simp only [List.length_drop,List.length_take];rfl)) ?_;(with_reducible refine (spec_DecodeShards.calls k _ _ l0 a1 a2 t246 t247 _ ?side1 ?side2 A5.out).mono ?_);(case side1=>repeat (first|exact (Kd.C_below HR0.out HB.out)|(with_reducible refine Kd.C_alloc ?_ _)|(with_reducible refine Kd.C_drewN ?_ _)|(with_reducible refine Kd.C_drew ?_)));(case side2=>exact HC0.out);rintro e w8 ⟨v248,rfl,ho0,hb⟩;refine ⟨_,rfl,?_⟩;have n0_:=am (Kd.R_lower ho0 (pz (by repeat (first|(with_reducible first|exact HB.out|apply pa|apply pb|apply pd|refine pt ?_ GE245.out)|exact HB.out))));have n1_:=am (qb (g:=gb245) (o:=.cells #[.int .i64 0, .string (⟨#[]⟩ : ByteArray)] 84 (0,0)) (by (with_reducible repeat (first|refine qn ?_ _|refine qd ?_|refine qa ?_ _));exact BK245.out) hb);have n2_:=am (pu (by repeat (first|(with_reducible first|exact HB.out|apply pa|apply pb|apply pd|refine pt ?_ GE245.out)|exact HB.out)) hb);clear BK245;clear HB;have HO249:=n0_;have BK245:=n1_;have HB:=n2_;clear n0_ n1_ n2_;(try clear hb);(try clear hb2);(try clear hk);(try clear hi);(try clear ho0)))
 (try simp only [Act.put,q1,q2,q3])
 go_cut [29] (fun v29 wc=>∃ (kq : Nat) (x29_5 : Bool),v29 = .bool x29_5∧Aside0 (spec_RebuildShard.j0 kq a1 a2 a3 t246 x29_5=some (r1,r2,r3))∧Aside0 (kq≤k)∧Aside0 (Kd.R Kd.string 9 wc w.heap.size (fun _=>True) v248 t246)∧Aside0 (wc.heap[gb245]? = some (.cells #[.int .i64 0, .string (⟨#[]⟩ : ByteArray)] 84 (0,0)))∧Aside0 (Below w.heap.size w wc))
 case first =>
  have H:=HC6.out
  clear HC6
  by_cases c9 : t247=true
  ·subst c9
   have H1 : ((spec_l1In.f a3 0 (wrap64 ((wrap64 (a1+a2)) - 1))).bind fun t250=>(spec_RebuildShard.j0 k a1 a2 a3 t246 (!t250)))=some (r1,r2,r3):=by rw [if_pos rfl] at H;exact H
   clear H
   have H:=H1
   clear H1
   replace H:=Option.bind_eq_some_iff.mp H
   obtain ⟨t250,A100,H⟩:=H
   replace H : (spec_RebuildShard.j0 k a1 a2 a3 t246 (!t250))=some (r1,r2,r3):=H
   have A10:=am A100
   clear A100
   have H':=am H
   clear H
   go_wp2_with (first|(go_at_call 121;(with_reducible refine (spec_l1In.calls a3 0 (wrap64 ((wrap64 (a1+a2)) - 1)) t250 _ A10.out).mono ?_);rintro e w' ⟨rfl,⟨nd,rfl⟩⟩))
   go_meet
   case rel=>exact ⟨_,(!t250),(by first|rfl|(simp;done)|(simp [*];done)),H',⟨by first|omega|exact Nat.le_refl _⟩,⟨by (with_reducible repeat (first|apply Kd.R_alloc|apply Kd.R_drewN|apply Kd.R_drew));exact HO249.out⟩,⟨by (with_reducible repeat (first|refine qn ?_ _|refine qd ?_|refine qa ?_ _));exact BK245.out⟩,⟨by repeat (first|(with_reducible first|exact HB.out|apply pa|apply pb|apply pd|refine pt ?_ GE245.out)|exact HB.out)⟩⟩
  ·replace c9:=Bool.eq_false_iff.mpr c9
   subst c9
   have H1 : (spec_RebuildShard.j0 k a1 a2 a3 t246 true)=some (r1,r2,r3):=by rw [if_neg (show ¬ (false=true) by decide)] at H;exact H
   clear H
   have H:=H1
   clear H1
   have H':=am H
   clear H
   go_wp2
   go_meet
   case rel=>exact ⟨_,(true),(by first|rfl|(simp;done)|(simp [*];done)),H',⟨by first|omega|exact Nat.le_refl _⟩,⟨by (with_reducible repeat (first|apply Kd.R_alloc|apply Kd.R_drewN|apply Kd.R_drew));exact HO249.out⟩,⟨by (with_reducible repeat (first|refine qn ?_ _|refine qd ?_|refine qa ?_ _));exact BK245.out⟩,⟨by repeat (first|(with_reducible first|exact HB.out|apply pa|apply pb|apply pd|refine pt ?_ GE245.out)|exact HB.out)⟩⟩
 case rest =>
  clear HC6
  try clear p2
  try clear c5
  try clear c6
  try clear p6
  try clear c9
  obtain ⟨kq,x29_5,rfl,HA,HJ5,HO_10,BK245,HB⟩:=hcut
  cases kq with
  | zero=>exact absurd HA.out (by simp [spec_RebuildShard.j0])
  | succ kj5 =>
   have H:=HA.out
   clear HA
   simp only [spec_RebuildShard.j0] at H
   by_cases c11 : x29_5=true
   ·subst c11
    have H1 : (some (0,(⟨#[]⟩ : ByteArray),false))=some (r1,r2,r3):=by rw [if_pos rfl] at H;exact H
    clear H
    have H:=H1
    clear H1
    simp only [Option.some.injEq,Prod.mk.injEq] at H
    obtain ⟨rfl,rfl,rfl⟩:=H
    have hcz12_0 : wc.cell? ⟨gb245,0,none⟩=some (.int .i64 0):=(blk_cell BK245.out 0).trans rfl
    have hcz12_1 : wc.cell? ⟨gb245,1,none⟩=some (.string (⟨#[]⟩ : ByteArray)):=(blk_cell BK245.out 1).trans rfl
    have hfz12_0:=blk_frozen BK245.out 0
    have hfz12_1:=blk_frozen BK245.out 1
    go_wp2
    refine bodyPost_ret (results_ct rfl _ _ gb245 84 #[.int .i64 0, .string (⟨#[]⟩ : ByteArray)] (0,0) _ rfl (by (with_reducible repeat (first|refine qn ?_ _|refine qd ?_|refine qa ?_ _));refine blk_put (cs:=#[.int .i64 0, .string (⟨#[]⟩ : ByteArray)]) ?_ 1 _ rfl;(with_reducible repeat (first|refine qn ?_ _|refine qd ?_|refine qa ?_ _));refine blk_put (cs:=#[.int .i64 0, .string (⟨#[]⟩ : ByteArray)]) ?_ 0 _ rfl;(with_reducible repeat (first|refine qn ?_ _|refine qd ?_|refine qa ?_ _));exact BK245.out) Try.underlying84 rfl (by kernel_rfl)) rfl ?_
    exact ⟨by first|rfl|(simp [errW_none,errW_some] <;> rfl)|(simp [*,errW_none,errW_some] <;> rfl),by repeat (first|(with_reducible first|exact HB.out|apply pa|apply pb|apply pd|refine pt ?_ GE245.out)|exact HB.out)⟩
   ·replace c11:=Bool.eq_false_iff.mpr c11
    subst c11
    have H1 : ((spec_l3Matrix.f kj5 a1 a2).bind fun t251=>((spec_l3Rows.f kj5 t251 t246).bind fun t254=>(if 0≤a3 then (if a3 < (t254.length : Int) then (some (a3,rdOf ByteArray.empty t254 a3,true)) else (none)) else (none))))=some (r1,r2,r3):=by rw [if_neg (show ¬ (false=true) by decide)] at H;exact H
    clear H
    have H:=H1
    clear H1
    replace H:=Option.bind_eq_some_iff.mp H
    obtain ⟨t251,A130,H⟩:=H
    replace H : ((spec_l3Rows.f kj5 t251 t246).bind fun t254=>(if 0≤a3 then (if a3 < (t254.length : Int) then (some (a3,rdOf ByteArray.empty t254 a3,true)) else (none)) else (none)))=some (r1,r2,r3):=H
    have A13:=am A130
    clear A130
    replace H:=Option.bind_eq_some_iff.mp H
    obtain ⟨t254,A140,H⟩:=H
    replace H : (if 0≤a3 then (if a3 < (t254.length : Int) then (some (a3,rdOf ByteArray.empty t254 a3,true)) else (none)) else (none))=some (r1,r2,r3):=H
    have A14:=am A140
    clear A140
    by_cases c15 : 0≤a3
    ·rw [if_pos c15] at H
     have c15b0 : decide (0≤a3)=true:=decide_eq_true c15
     clear c15
     by_cases c16 : a3 < (t254.length : Int)
     ·rw [if_pos c16] at H
      have c16b0 : decide (a3 < (t254.length : Int))=true:=decide_eq_true c16
      clear c16
      simp only [Option.some.injEq,Prod.mk.injEq] at H
      obtain ⟨rfl,rfl,rfl⟩:=H
      go_wp2_with (first|((with_reducible refine gate_callee (f:=135) rfl ?_);refine goesL_ (some 34) rfl rfl Try.func135 (by kernel_rfl) rfl #[.int .i64 a1, .int .i64 a2] rfl (by (try simp only [List.map_toArray,List.map_cons,List.map_nil]);first|done|rfl|(simp only [List.length_drop,List.length_take];rfl)) ?_;(with_reducible refine (spec_l3Matrix.calls kj5 a1 a2 t251 _ A13.out).mono ?_);rintro e w17 ⟨v252,rfl,ho0,hb⟩;refine ⟨_,rfl,?_⟩;have n0_:=am (Kd.R_below (by (with_reducible repeat (first|apply Kd.R_alloc|apply Kd.R_drewN|apply Kd.R_drew));exact HO_10.out) hb);have n1_:=am (Kd.N_lower (Kd.N_mono (ok':=fun k_=>some k_ ≠ (v248 : Value).ownBlock∧k_ ≠ gb245) ho0 (fun k_ hk_=>⟨(Kd.fresh' (Kd.R_lt (by (with_reducible repeat (first|apply Kd.R_alloc|apply Kd.R_drewN|apply Kd.R_drew));exact HO_10.out)) k_ hk_),(Kd.freshB (g:=gb245) (o:=.cells #[.int .i64 0, .string (⟨#[]⟩ : ByteArray)] 84 (0,0)) (by (with_reducible repeat (first|refine qn ?_ _|refine qd ?_|refine qa ?_ _));exact BK245.out) k_ hk_)⟩)) (pz (by repeat (first|(with_reducible first|exact HB.out|apply pa|apply pb|apply pd|refine pt ?_ GE245.out)|exact HB.out))));have n2_:=am (qb (g:=gb245) (o:=.cells #[.int .i64 0, .string (⟨#[]⟩ : ByteArray)] 84 (0,0)) (by (with_reducible repeat (first|refine qn ?_ _|refine qd ?_|refine qa ?_ _));exact BK245.out) hb);have n3_:=am (pu (by repeat (first|(with_reducible first|exact HB.out|apply pa|apply pb|apply pd|refine pt ?_ GE245.out)|exact HB.out)) hb);clear HO_10;clear BK245;clear HB;have HO_10:=n0_;have HO253:=n1_;have BK245:=n2_;have HB:=n3_;clear n0_ n1_ n2_ n3_;(try clear hb);(try clear hb2);(try clear hk);(try clear hi);(try clear ho0);obtain ⟨Ao18,co18,eo18⟩:=Kd.N_slice HO253.out;subst eo18;obtain ⟨Ao19,co19,eo19⟩:=Kd.R_slice HO_10.out;subst eo19)|((with_reducible refine gate_callee (f:=89) rfl ?_);refine goesL_ (some 36) rfl rfl Try.func89 (by kernel_rfl) rfl #[.agg #[.slice Ao18 t251.length co18], .slice Ao19 t246.length co19] rfl (by (try simp only [List.map_toArray,List.map_cons,List.map_nil]);first|done|rfl|(simp only [List.length_drop,List.length_take];rfl)) ?_;(with_reducible refine (spec_l3Rows.calls kj5 _ _ t251 _ _ t246 t254 _ ?side1 ?side2 ?side3 ?side4 A14.out).mono ?_);(case side1=>repeat (first|exact (Kd.N_reads' HO253.out).2.2|(with_reducible refine Kd.C_alloc ?_ _)|(with_reducible refine Kd.C_drewN ?_ _)|(with_reducible refine Kd.C_drew ?_)));(case side2=>exact (Kd.N_reads' HO253.out).2.1);(case side3=>repeat (first|exact (Kd.R_reads' HO_10.out).2.2|(with_reducible refine Kd.C_alloc ?_ _)|(with_reducible refine Kd.C_drewN ?_ _)|(with_reducible refine Kd.C_drew ?_)));(case side4=>exact (Kd.R_reads' HO_10.out).2.1);rintro e w20 ⟨v255,rfl,ho0,hb⟩;refine ⟨_,rfl,?_⟩;have n0_:=am (Kd.R_elder' (by (with_reducible repeat (first|apply Kd.R_alloc|apply Kd.R_drewN|apply Kd.R_drew));exact HO_10.out) (Kd.R_base ho0) hb);have n1_:=am (Kd.N_elder' (by (with_reducible repeat (first|apply Kd.N_alloc|apply Kd.N_drewN|apply Kd.N_drew));exact HO253.out) (Kd.R_base ho0) hb);have n2_:=am (Kd.R_lower (Kd.R_new' ho0 (Kd.R_lt (by (with_reducible repeat (first|apply Kd.R_alloc|apply Kd.R_drewN|apply Kd.R_drew));exact HO_10.out))) (pz (by repeat (first|(with_reducible first|exact HB.out|apply pa|apply pb|apply pd|refine pt ?_ GE245.out)|exact HB.out))));have n3_:=am (qb (g:=gb245) (o:=.cells #[.int .i64 0, .string (⟨#[]⟩ : ByteArray)] 84 (0,0)) (by (with_reducible repeat (first|refine qn ?_ _|refine qd ?_|refine qa ?_ _));exact BK245.out) hb);have n4_:=am (pu (by repeat (first|(with_reducible first|exact HB.out|apply pa|apply pb|apply pd|refine pt ?_ GE245.out)|exact HB.out)) hb);clear HO_10;clear HO253;clear BK245;clear HB;have HO_10:=n0_;have HO253:=n1_;have HO256:=n2_;have BK245:=n3_;have HB:=n4_;clear n0_ n1_ n2_ n3_ n4_;(try clear hb);(try clear hb2);(try clear hk);(try clear hi);(try clear ho0);obtain ⟨Ao21,co21,eo21⟩:=Kd.R_slice HO256.out;subst eo21;have p257 : 0≤(a3 : Int):=of_decide_eq_true (by first|(with_reducible assumption)|assumption);have q257 : a3 < (t254.length : Int):=of_decide_eq_true (by first|(with_reducible assumption)|assumption);obtain ⟨ad257,e257,hx257_0⟩:=Kd.at_string (Kd.R_reads' HO256.out).2.2 a3 p257 q257;cases e257;replace p257:=eq_true p257;replace q257:=eq_true q257;have hcz22_0 : w20.cell? ⟨gb245,0,none⟩=some (.int .i64 0):=(blk_cell BK245.out 0).trans rfl;have hcz22_1 : w20.cell? ⟨gb245,1,none⟩=some (.string (⟨#[]⟩ : ByteArray)):=(blk_cell BK245.out 1).trans rfl;have hfz22_0:=blk_frozen BK245.out 0;have hfz22_1:=blk_frozen BK245.out 1))
      refine bodyPost_ret (results_ct rfl _ _ gb245 84 #[.int .i64 a3, .string (rdOf ByteArray.empty t254 a3)] (0,0) _ rfl (by (with_reducible repeat (first|refine qn ?_ _|refine qd ?_|refine qa ?_ _));refine blk_put (cs:=#[.int .i64 a3, .string (⟨#[]⟩ : ByteArray)]) ?_ 1 _ rfl;(with_reducible repeat (first|refine qn ?_ _|refine qd ?_|refine qa ?_ _));refine blk_put (cs:=#[.int .i64 0, .string (⟨#[]⟩ : ByteArray)]) ?_ 0 _ rfl;(with_reducible repeat (first|refine qn ?_ _|refine qd ?_|refine qa ?_ _));exact BK245.out) Try.underlying84 rfl (by kernel_rfl)) rfl ?_
      exact ⟨by first|rfl|(simp [errW_none,errW_some] <;> rfl)|(simp [*,errW_none,errW_some] <;> rfl),by repeat (first|(with_reducible first|exact HB.out|apply pa|apply pb|apply pd|refine pt ?_ GE245.out)|exact HB.out)⟩
     ·rw [if_neg c16] at H
      exact absurd H (by simp)
    ·rw [if_neg c15] at H
     exact absurd H (by simp)

def laws_toShard.f (a0_0 : Int) (a0_1 : ByteArray) : Option (Int × ByteArray):=some (a0_0,a0_1)
set_option maxHeartbeats 8000000 in
set_option maxRecDepth 100000 in
theorem laws_toShard.calls (a0_0 : Int) (a0_1 : ByteArray) (r1 : Int) (r2 : ByteArray) (w : World) (h : laws_toShard.f a0_0 a0_1=some (r1,r2)) :
  Calls Try.prog 136 #[.agg #[.int .i64 a0_0, .string a0_1]] w fun e w'=>e = .returned (.agg #[.int .i64 r1, .string r2])∧Below w.heap.size w w':=by
 have hu160:=Try.underlying160
 have hu84:=Try.underlying84
 have HB:=am (Below.refl w.heap.size w)
 have H : (some (a0_0,a0_1))=some (r1,r2):=h
 clear h
 simp only [Option.some.injEq,Prod.mk.injEq] at H
 obtain ⟨rfl,rfl⟩:=H
 go_enter Try.func136,Try.ntmps136
 go_wp2_with (first|((with_reducible refine gate_dst (N:=1) rfl ?_);refine box_event ?hg (N:=1) ?hd (cs:=#[.int .i64 a0_0, .string a0_1]) (t:=160) ?hr ?_;(case hd=>rfl);(case hg=>rfl);(case hr=>first|(go_simp;done)|(go_simp;rfl));intro gb258 hg w2 hbox hb;have n0_:=am (pu (by repeat (first|(with_reducible first|exact HB.out|apply pa|apply pb|apply pd)|exact HB.out)) hb);have n1_:=am (hbox);have n2_:=am ((by rw [hg];exact (pz (by repeat (first|(with_reducible first|exact HB.out|apply pa|apply pb|apply pd)|exact HB.out))) : w.heap.size≤gb258));have n3_:=am ((by rw [hg];exact (pz (by repeat (first|(with_reducible first|exact HB.out|apply pa|apply pb|apply pd)|exact HB.out))) : w.heap.size≤gb258));clear HB;have HB:=n0_;have BK258:=n1_;have GW258:=n2_;have GE258:=n3_;clear n0_ n1_ n2_ n3_;clear hb hbox hg)|((with_reducible refine gate_dst (N:=2) rfl ?_);refine box_event ?hg (N:=2) ?hd (cs:=#[.int .i64 0, .string (⟨#[]⟩ : ByteArray)]) (t:=84) ?hr ?_;(case hd=>rfl);(case hg=>rfl);(case hr=>first|(go_simp;done)|(go_simp;rfl));intro gb259 hg w3 hbox hb;have n0_:=am (qb (g:=gb258) (o:=.cells #[.int .i64 a0_0, .string a0_1] 160 (0,0)) (by (with_reducible repeat (first|refine qn ?_ _|refine qd ?_|refine qa ?_ _));exact BK258.out) hb);have n1_:=am (pu (by repeat (first|(with_reducible first|exact HB.out|apply pa|apply pb|apply pd|refine pt ?_ GE258.out)|exact HB.out)) hb);have n2_:=am (hbox);have n3_:=am ((by rw [hg];exact (pz (by repeat (first|(with_reducible first|exact HB.out|apply pa|apply pb|apply pd|refine pt ?_ GE258.out)|exact HB.out))) : w.heap.size≤gb259));have n4_:=am ((by rw [hg];exact (pz (by repeat (first|(with_reducible first|exact HB.out|apply pa|apply pb|apply pd|refine pt ?_ GE258.out)|exact HB.out))) : w.heap.size≤gb259));have n5_:=am ((by rw [hg];exact Nat.ne_of_lt (blk_lt (g:=gb258) (o:=.cells #[.int .i64 a0_0, .string a0_1] 160 (0,0)) (by (with_reducible repeat (first|refine qn ?_ _|refine qd ?_|refine qa ?_ _));exact BK258.out)) : gb258 ≠ gb259));have n6_:=am ((by rw [hg];exact Nat.ne_of_gt (blk_lt (g:=gb258) (o:=.cells #[.int .i64 a0_0, .string a0_1] 160 (0,0)) (by (with_reducible repeat (first|refine qn ?_ _|refine qd ?_|refine qa ?_ _));exact BK258.out)) : gb259 ≠ gb258));clear BK258;clear HB;have BK258:=n0_;have HB:=n1_;have BK259:=n2_;have GW259:=n3_;have GE259:=n4_;have NB258_259:=n5_;have NB259_258:=n6_;clear n0_ n1_ n2_ n3_ n4_ n5_ n6_;clear hb hbox hg)|((with_reducible refine gate_dst (N:=3) rfl ?_);refine box_event ?hg (N:=3) ?hd (cs:=#[.int .i64 0, .string (⟨#[]⟩ : ByteArray)]) (t:=84) ?hr ?_;(case hd=>rfl);(case hg=>rfl);(case hr=>first|(go_simp;done)|(go_simp;rfl));intro gb260 hg w4 hbox hb;have n0_:=am (qb (g:=gb258) (o:=.cells #[.int .i64 a0_0, .string a0_1] 160 (0,0)) (by (with_reducible repeat (first|refine qn ?_ _|refine qd ?_|refine qa ?_ _));exact BK258.out) hb);have n1_:=am (qb (g:=gb259) (o:=.cells #[.int .i64 0, .string (⟨#[]⟩ : ByteArray)] 84 (0,0)) (by (with_reducible repeat (first|refine qn ?_ _|refine qd ?_|refine qa ?_ _));exact BK259.out) hb);have n2_:=am (pu (by repeat (first|(with_reducible first|exact HB.out|apply pa|apply pb|apply pd|refine pt ?_ GE258.out|refine pt ?_ GE259.out)|exact HB.out)) hb);have n3_:=am (hbox);have n4_:=am ((by rw [hg];exact (pz (by repeat (first|(with_reducible first|exact HB.out|apply pa|apply pb|apply pd|refine pt ?_ GE258.out|refine pt ?_ GE259.out)|exact HB.out))) : w.heap.size≤gb260));have n5_:=am ((by rw [hg];exact (pz (by repeat (first|(with_reducible first|exact HB.out|apply pa|apply pb|apply pd|refine pt ?_ GE258.out|refine pt ?_ GE259.out)|exact HB.out))) : w.heap.size≤gb260));have n6_:=am ((by rw [hg];exact Nat.ne_of_lt (blk_lt (g:=gb258) (o:=.cells #[.int .i64 a0_0, .string a0_1] 160 (0,0)) (by (with_reducible repeat (first|refine qn ?_ _|refine qd ?_|refine qa ?_ _));exact BK258.out)) : gb258 ≠ gb260));have n7_:=am ((by rw [hg];exact Nat.ne_of_gt (blk_lt (g:=gb258) (o:=.cells #[.int .i64 a0_0, .string a0_1] 160 (0,0)) (by (with_reducible repeat (first|refine qn ?_ _|refine qd ?_|refine qa ?_ _));exact BK258.out)) : gb260 ≠ gb258));have n8_:=am ((by rw [hg];exact Nat.ne_of_lt (blk_lt (g:=gb259) (o:=.cells #[.int .i64 0, .string (⟨#[]⟩ : ByteArray)] 84 (0,0)) (by (with_reducible repeat (first|refine qn ?_ _|refine qd ?_|refine qa ?_ _));exact BK259.out)) : gb259 ≠ gb260));have n9_:=am ((by rw [hg];exact Nat.ne_of_gt (blk_lt (g:=gb259) (o:=.cells #[.int .i64 0, .string (⟨#[]⟩ : ByteArray)] 84 (0,0)) (by (with_reducible repeat (first|refine qn ?_ _|refine qd ?_|refine qa ?_ _));exact BK259.out)) : gb260 ≠ gb259));clear BK258;clear BK259;clear HB;have BK258:=n0_;have BK259:=n1_;have HB:=n2_;have BK260:=n3_;have GW260:=n4_;have GE260:=n5_;have NB258_260:=n6_;have NB260_258:=n7_;have NB259_260:=n8_;have NB260_259:=n9_;clear n0_ n1_ n2_ n3_ n4_ n5_ n6_ n7_ n8_ n9_;clear hb hbox hg;have hnb5:=NB258_259.out;have hnc5:=NB259_258.out;have hnb6:=NB258_260.out;have hnc6:=NB260_258.out;have hcz7_0 : w4.cell? ⟨gb258,0,none⟩=some (.int .i64 a0_0):=(blk_cell BK258.out 0).trans rfl;have hcz7_1 : w4.cell? ⟨gb258,1,none⟩=some (.string a0_1):=(blk_cell BK258.out 1).trans rfl;have hfz7_0:=blk_frozen BK258.out 0;have hfz7_1:=blk_frozen BK258.out 1;have hnb8:=NB260_259.out;have hnc8:=NB259_260.out;have hcz9_0 : w4.cell? ⟨gb260,0,none⟩=some (.int .i64 0):=(blk_cell BK260.out 0).trans rfl;have hcz9_1 : w4.cell? ⟨gb260,1,none⟩=some (.string (⟨#[]⟩ : ByteArray)):=(blk_cell BK260.out 1).trans rfl;have hfz9_0:=blk_frozen BK260.out 0;have hfz9_1:=blk_frozen BK260.out 1;have hcz10_0 : w4.cell? ⟨gb259,0,none⟩=some (.int .i64 0):=(blk_cell BK259.out 0).trans rfl;have hcz10_1 : w4.cell? ⟨gb259,1,none⟩=some (.string (⟨#[]⟩ : ByteArray)):=(blk_cell BK259.out 1).trans rfl;have hfz10_0:=blk_frozen BK259.out 0;have hfz10_1:=blk_frozen BK259.out 1))
 refine bodyPost_ret (results_cell_row rfl _ _ gb259 84 #[.int .i64 a0_0, .string a0_1] (0,0) _ rfl (by (with_reducible repeat (first|refine qn ?_ _|refine qd ?_|refine qa ?_ _));refine blk_put (cs:=#[.int .i64 a0_0, .string (⟨#[]⟩ : ByteArray)]) ?_ 1 _ rfl;(with_reducible repeat (first|refine qn ?_ _|refine qd ?_|refine qa ?_ _));refine blk_put (cs:=#[.int .i64 0, .string (⟨#[]⟩ : ByteArray)]) ?_ 0 _ rfl;(with_reducible repeat (first|refine qn ?_ _|refine qd ?_|refine qa ?_ _));refine blk_far ?_ NB259_260.out _;(with_reducible repeat (first|refine qn ?_ _|refine qd ?_|refine qa ?_ _));refine blk_far ?_ NB259_260.out _;(with_reducible repeat (first|refine qn ?_ _|refine qd ?_|refine qa ?_ _));exact BK259.out) Try.underlying84 rfl (by kernel_rfl)) rfl ?_
 exact ⟨by first|rfl|(simp [errW_none,errW_some] <;> rfl)|(simp [*,errW_none,errW_some] <;> rfl),by repeat (first|(with_reducible first|exact HB.out|apply pa|apply pb|apply pd|refine pt ?_ GE258.out|refine pt ?_ GE259.out|refine pt ?_ GE260.out)|exact HB.out)⟩

def laws_toShardS.l0 : Nat→List (S160)→List (S84)→Int→Option ((List (S84)))
 | 0,_,_,_=>none
 | k+1,x0,x3,x4=>if x4 < (x0.length : Int) then (if 0≤x4 then ((laws_toShard.f ((rd_T160 x0 x4).f0) ((rd_T160 x0 x4).f1)).bind fun bt265=>(if x4 < (x3.length : Int) then (laws_toShardS.l0 k x0 (x3.set (x4 : Int).toNat (⟨bt265.1,bt265.2⟩ : S84)) (wrap64 (x4+1))) else (none))) else (none)) else (some x3)
def laws_toShardS.f (k : Nat) (l0 : List (S160)) : Option ((List (S84))):=if 0≤(l0.length : Int) then (if ((l0.length : Int) : Int).toNat≤11728124029610 then (laws_toShardS.l0 k l0 (List.replicate ((l0.length : Int) : Int).toNat z84) 0) else (none)) else (none)
theorem laws_toShardS.mono_l : ∀ k,(∀ y0 y1 y2,LeO (laws_toShardS.l0 k y0 y1 y2) (laws_toShardS.l0 (k+1) y0 y1 y2))
 | 0=>fun _ _ _ r h=>by simp [laws_toShardS.l0] at h
 | k+1=>by
  have ih0:=laws_toShardS.mono_l k
  ·intro y0 y1 y2
   unfold laws_toShardS.l0
   repeat' first
   | (with_reducible exact ih0 _ _ _)
   | (with_reducible exact LeO.refl _)
   | (with_reducible exact LeO.none _)
   | (with_reducible refine LeO.ite ?_ ?_)
   | (with_reducible refine LeO.bind ?_ (fun _=>?_))
   | exact ih0 _ _ _
   | exact LeO.none _
   | refine LeO.ite ?_ ?_
   | refine LeO.bind ?_ (fun _=>?_)
theorem laws_toShardS.mono : ∀ a0 k,LeO (laws_toShardS.f k a0) (laws_toShardS.f (k+1) a0):=by
 intro a0 k
 have ih0:=laws_toShardS.mono_l k
 unfold laws_toShardS.f
 repeat' first
   | (with_reducible exact ih0 _ _ _)
   | (with_reducible exact LeO.refl _)
   | (with_reducible exact LeO.none _)
   | (with_reducible refine LeO.ite ?_ ?_)
   | (with_reducible refine LeO.bind ?_ (fun _=>?_))
   | exact ih0 _ _ _
   | exact LeO.none _
   | refine LeO.ite ?_ ?_
   | refine LeO.bind ?_ (fun _=>?_)
set_option maxHeartbeats 8000000 in
set_option maxRecDepth 100000 in
theorem laws_toShardS.calls (k : Nat) (A0 : Option Addr) (c0 : Nat) (l0 : List (S160)) (r : List (S84)) (w : World) (hr0 : Kd.C k160 w A0 l0.length l0) (hc0 : l0.length≤c0) (h : laws_toShardS.f k l0=some r) :
  Calls Try.prog 55 #[.slice A0 l0.length c0] w fun e w'=>∃ v0_ : Value,e = .returned (v0_)∧Kd.R k84 84 w' w.heap.size (fun _=>True) v0_ r∧Below w.heap.size w w':=by
 have hu160:=Try.underlying160
 have hu84:=Try.underlying84
 have HR0:=am hr0
 have HC0:=am hc0
 clear hr0 hc0
 have HB:=am (Below.refl w.heap.size w)
 have H : (if 0≤(l0.length : Int) then (if ((l0.length : Int) : Int).toNat≤11728124029610 then (laws_toShardS.l0 k l0 (List.replicate ((l0.length : Int) : Int).toNat z84) 0) else (none)) else (none))=some r:=h
 clear h
 by_cases c2 : 0≤(l0.length : Int)
 ·rw [if_pos c2] at H
  have c2b0:=eq_true c2
  have c2b1 : decide (0≤(l0.length : Int))=true:=decide_eq_true c2
  clear c2
  by_cases c3 : ((l0.length : Int) : Int).toNat≤11728124029610
  ·rw [if_pos c3] at H
   have c3b0:=eq_true c3
   have c3b1 : decide (((l0.length : Int) : Int).toNat≤11728124029610)=true:=decide_eq_true c3
   clear c3
   obtain ⟨y261,hy261⟩ : ∃ y_ : List (S84),y_=(List.replicate ((l0.length : Int) : Int).toNat z84):=⟨_,rfl⟩
   replace H : (laws_toShardS.l0 k l0 y261 0)=some r:=by first|(rw [hy261];with_reducible exact H)|(have H2_:=(Option.bind_some _ _).symm.trans H;rw [hy261];with_reducible exact H2_)|(have H2_:=(Option.bind_some _ _).symm.trans H;with_reducible exact H2_)|with_reducible exact H|(rw [hy261];exact H)|exact H
   have Ny261:=am hy261
   clear hy261
   have H':=am H
   clear H
   go_enter Try.func55,Try.ntmps55
   go_wp2_with (first|((with_reducible refine gate_dst (N:=7) rfl ?_);refine Kd.R_make k84 _ 84 rfl (N:=7) rfl 87 _ _ rfl (l0.length : Int) rfl rfl Try.underlying87 (.agg #[(.int .i64 0),(.string ⟨#[]⟩)]) 24 info84 rfl (by decide) (by omega) z84 (ok:=fun _=>True) (okp:=fun _=>True) (k84_mkM _ _ _ z84 ) (fun _ hk=>hk) trivial (of_decide_eq_true (by first|(with_reducible assumption)|assumption)) (Nat.le_trans (Nat.mul_le_mul_right _ (of_decide_eq_true (by first|(with_reducible assumption)|assumption) : (l0.length : Int).toNat≤11728124029610)) (by omega)) (Below.refl _ _) (Nat.le_refl _) ?_;intro v262 w4 ho5 hb hg_ hnew_;clear hg_ hnew_;(first|rw [← Ny261.out] at ho5|(simp only [Int.reduceToNat] at ho5;rw [← Ny261.out] at ho5));have n0_:=am (Kd.R_lower ho5 (pz (by repeat (first|(with_reducible first|exact HB.out|apply pa|apply pb|apply pd)|exact HB.out))));have n1_:=am (pu (by repeat (first|(with_reducible first|exact HB.out|apply pa|apply pb|apply pd)|exact HB.out)) hb);clear HB;have HO263:=n0_;have HB:=n1_;clear n0_ n1_;clear hb ho5))
   go_loopg [4] k (fun kq v4 w'=>∃ (x3_1 : List (S84)) (x4_1 : Int),v4 = .int .i64 x4_1∧Aside0 (laws_toShardS.l0 kq l0 x3_1 x4_1=some r)∧Aside0 (kq≤k)∧Aside0 (Kd.R k84 84 w' w.heap.size (fun _=>True) v262 x3_1)∧Aside0 (Below w.heap.size w w'))
   case atStart=>exact ⟨(y261),(0),(by first|rfl|(simp;done)|(simp [*];done)),H',⟨Nat.le_refl _⟩,⟨by (with_reducible repeat (first|apply Kd.R_alloc|apply Kd.R_drewN|apply Kd.R_drew));exact HO263.out⟩,⟨by repeat (first|(with_reducible first|exact HB.out|apply pa|apply pb|apply pd)|exact HB.out)⟩⟩
   case round =>
    clear H'
    try clear c2
    try clear c2b0
    try clear c2b1
    try clear p2
    try clear c3
    try clear c3b0
    try clear c3b1
    try clear c5
    obtain ⟨x3_1,x4_1,rfl,HA,HK1,HO_3,HB⟩:=hrel
    cases gk with
    | zero=>exact absurd HA.out (by simp [laws_toShardS.l0])
    | succ k1 =>
     have H:=HA.out
     clear HA
     simp only [laws_toShardS.l0] at H
     by_cases c6 : x4_1 < (l0.length : Int)
     ·rw [if_pos c6] at H
      have c6b0 : decide (x4_1 < (l0.length : Int))=true:=decide_eq_true c6
      clear c6
      by_cases c7 : 0≤x4_1
      ·rw [if_pos c7] at H
       have c7b0 : decide (0≤x4_1)=true:=decide_eq_true c7
       clear c7
       replace H:=Option.bind_eq_some_iff.mp H
       obtain ⟨⟨t265,t266⟩,A80,H⟩:=H
       replace H : (if x4_1 < (x3_1.length : Int) then (laws_toShardS.l0 k1 l0 (x3_1.set (x4_1 : Int).toNat (⟨t265,t266⟩ : S84)) (wrap64 (x4_1+1))) else (none))=some r:=H
       have A8:=am A80
       clear A80
       by_cases c9 : x4_1 < (x3_1.length : Int)
       ·rw [if_pos c9] at H
        have c9b0 : decide (x4_1 < (x3_1.length : Int))=true:=decide_eq_true c9
        clear c9
        obtain ⟨y267,hy267⟩ : ∃ y_ : List (S84),y_=(x3_1.set (x4_1 : Int).toNat (⟨t265,t266⟩ : S84)):=⟨_,rfl⟩
        replace H : (laws_toShardS.l0 k1 l0 y267 (wrap64 (x4_1+1)))=some r:=by first|(rw [hy267];with_reducible exact H)|(have H2_:=(Option.bind_some _ _).symm.trans H;rw [hy267];with_reducible exact H2_)|(have H2_:=(Option.bind_some _ _).symm.trans H;with_reducible exact H2_)|with_reducible exact H|(rw [hy267];exact H)|exact H
        have Ny267:=am hy267
        clear hy267
        have H':=am H
        clear H
        have p264 : 0≤(x4_1 : Int):=of_decide_eq_true (by first|(with_reducible assumption)|assumption)
        have q264 : x4_1 < (l0.length : Int):=of_decide_eq_true (by first|(with_reducible assumption)|assumption)
        obtain ⟨ad264,e264,hx264_0,hx264_1⟩:=at_T160 HR0.out x4_1 p264 q264
        cases e264
        replace hx264_0:=(HB.out.cell (World.block_lt_of_cell? w _ hx264_0)).trans hx264_0
        replace hx264_1:=(HB.out.cell (World.block_lt_of_cell? w _ hx264_1)).trans hx264_1
        replace p264:=eq_true p264
        replace q264:=eq_true q264
        go_wp2_with (first|((with_reducible refine gate_callee (f:=136) rfl ?_);refine goesL_ (some 20) rfl rfl Try.func136 (by kernel_rfl) rfl #[.agg #[.int .i64 ((rd_T160 l0 x4_1).f0), .string ((rd_T160 l0 x4_1).f1)]] rfl (by (try simp only [List.map_toArray,List.map_cons,List.map_nil]);first|done|rfl|(simp only [List.length_drop,List.length_take];rfl)) ?_;(with_reducible refine (laws_toShard.calls ((rd_T160 l0 x4_1).f0) ((rd_T160 l0 x4_1).f1) t265 t266 _ A8.out).mono ?_);rintro e w11 ⟨rfl,hb⟩;refine ⟨_,rfl,?_⟩;have n0_:=am (Kd.R_below (by (with_reducible repeat (first|apply Kd.R_alloc|apply Kd.R_drewN|apply Kd.R_drew));exact HO_3.out) hb);have n1_:=am (pu (by repeat (first|(with_reducible first|exact HB.out|apply pa|apply pb|apply pd)|exact HB.out)) hb);clear HO_3;clear HB;have HO_3:=n0_;have HB:=n1_;clear n0_ n1_;(try clear hb);(try clear hb2);(try clear hk);(try clear hi);have p10 : 0≤(x4_1 : Int):=of_decide_eq_true (by first|(with_reducible assumption)|assumption);have q10 : (x4_1 : Int) < ((x3_1.length : Int) : Int):=of_decide_eq_true (by first|(with_reducible assumption)|assumption);obtain ⟨go10,co10,eo10,gb10,gl10,cl10,HG10⟩:=Kd.R_form HO_3.out (by omega);(first|cases eo10|(injection eo10 with ea_ en_ ec_;(first|subst ea_|(injection ea_ with ea_;subst ea_));subst ec_;clear en_));have GB10:=am gb10;have GG10:=am HG10;clear gb10 gl10 HG10;obtain ⟨ce10,hcl10,hM10,hcc10,hfr10⟩:=Kd.R_elem HO_3.out z84 (x4_1 : Int) p10 q10;obtain rfl:=k84_openM hM10;have hx10_0 : w11.cell? ⟨go10,(x4_1 : Int).toNat*2,none⟩=some (.int .i64 ((rd_T84 x3_1 x4_1).f0)):=hcc10 0 _ rfl;have hx10_1 : w11.cell? ⟨go10,(x4_1 : Int).toNat*2+1,none⟩=some (.string ((rd_T84 x3_1 x4_1).f1)):=hcc10 1 _ rfl;have hf10_0 : w11.frozen? ⟨go10,(x4_1 : Int).toNat*2,none⟩=false:=hfr10 0;have hf10_1 : w11.frozen? ⟨go10,(x4_1 : Int).toNat*2+1,none⟩=false:=hfr10 1;clear hcl10 hcc10 hfr10;(try clear hM10);replace p10:=eq_true p10;replace q10:=eq_true q10;have HX12:=am (show Kd.R k84 84 w11 w.heap.size (fun _=>True) (.slice (some ⟨go10,0,none⟩) x3_1.length co10) x3_1 from (by (with_reducible repeat (first|apply Kd.R_alloc|apply Kd.R_drewN|apply Kd.R_drew));exact HO_3.out));obtain ⟨ce12,hcl12,hM12,hcc12,hfr12⟩:=Kd.R_elem HX12.out z84 (x4_1 : Int) (of_decide_eq_true (by first|(with_reducible assumption)|assumption)) (by have h_ : (x4_1 : Int) < ((x3_1.length : Int) : Int):=of_decide_eq_true (by first|(with_reducible assumption)|assumption);first|exact h_|(have e_:=(Kd.R_reads' HO_3.out).1;omega)|simpa using h_);obtain rfl:=k84_openM hM12;have HP12:=Kd.R_seg HX12.out (x4_1 : Int) (of_decide_eq_true (by first|(with_reducible assumption)|assumption)) (by have h_ : (x4_1 : Int) < ((x3_1.length : Int) : Int):=of_decide_eq_true (by first|(with_reducible assumption)|assumption);first|exact h_|(have e_:=(Kd.R_reads' HO_3.out).1;omega)|simpa using h_) (seg:=[.int .i64 t265, .string t266]) (j:=0) hcl12 hcc12 (show 2≤2 from by decide) (x':=(⟨t265,t266⟩ : S84)) (k84_mkM _ _ _ (⟨t265,t266⟩ : S84) ) (fun _ hk=>hk);have hx12_0:=hcc12 0 _ rfl;(try simp only [show (k84).sz=2 from rfl,Nat.mul_one,Nat.add_zero] at hx12_0);have hf12_0:=hfr12 0;(try simp only [show (k84).sz=2 from rfl,Nat.mul_one,Nat.add_zero] at hf12_0);have hx12_1:=hcc12 1 _ rfl;(try simp only [show (k84).sz=2 from rfl,Nat.mul_one,Nat.add_zero] at hx12_1);have hf12_1:=hfr12 1;(try simp only [show (k84).sz=2 from rfl,Nat.mul_one,Nat.add_zero] at hf12_1);clear hcl12 hcc12 hfr12 hM12)|((with_reducible refine gate_store (t:=84) (p:=21) rfl ?_);refine store_event (t:=84) (p:=21) (v:=?vo_w13) (w1:=((w11.setCell ⟨go10,(x4_1 : Int).toNat*2,none⟩ (.int .i64 t265)).setCell ⟨go10,(x4_1 : Int).toNat*2+1,none⟩ (.string t266))) ?hg ?ho ?hn ?hr ?_;(case ho=>rfl);(case hg=>rfl);(case hn=>rfl);(case hr=>first|(go_simp;done)|(go_simp;rfl));intro w13 hw;have hg : w11.grownBy w13 (some go10):=(by rw [hw];exact HP12.2);have hp_ : Kd.R k84 84 w13 w.heap.size (fun _=>True) (.slice (some ⟨go10,0,none⟩) x3_1.length co10) y267:=(by rw [hw,Ny267.out];exact HP12.1);clear HP12;have n0_:=am (hp_);have n1_:=am ((by rw [hw];exact pt (pt (HB.out) GB10.out) GB10.out : Below w.heap.size w w13));clear HO_3;clear HB;have HO_3:=n0_;have HB:=n1_;clear n0_ n1_;clear hg hw hp_))
        go_roundg k1
        case measure=>have:=HK1.out;omega
        case rel=>exact ⟨(y267),(wrap64 (x4_1+1)),(by first|rfl|(simp;done)|(simp [*];done)),H',⟨by have:=HK1.out;omega⟩,⟨by (with_reducible repeat (first|apply Kd.R_alloc|apply Kd.R_drewN|apply Kd.R_drew));exact HO_3.out⟩,⟨by repeat (first|(with_reducible first|exact HB.out|apply pa|apply pb|apply pd)|exact HB.out)⟩⟩
       ·rw [if_neg c9] at H
        exact absurd H (by simp)
      ·rw [if_neg c7] at H
       exact absurd H (by simp)
     ·rw [if_neg c6] at H
      have c6b0 : decide (x4_1 < (l0.length : Int))=false:=decide_eq_false c6
      clear c6
      obtain rfl:=Option.some.inj H
      go_wp2
      go_ret
      exact ⟨_,by first|rfl|(simp [errW_none,errW_some] <;> rfl)|(simp [*,errW_none,errW_some] <;> rfl),by (with_reducible repeat (first|apply Kd.R_alloc|apply Kd.R_drewN|apply Kd.R_drew));exact HO_3.out,by repeat (first|(with_reducible first|exact HB.out|apply pa|apply pb|apply pd)|exact HB.out)⟩
  ·rw [if_neg c3] at H
   exact absurd H (by simp)
 ·rw [if_neg c2] at H
  exact absurd H (by simp)

end Go.Proofs.Ytajikfnpcobnpaa.PFnExactRebuildShard
-- HALVED
-- SQUEEZED
-- SQUEEZED2
