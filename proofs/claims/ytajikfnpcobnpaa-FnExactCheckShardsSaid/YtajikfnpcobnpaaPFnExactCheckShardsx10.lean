-- Laid by a program of this session.
import Derived.Test.YtajikfnpcobnpaaPFnExactCheckShardsx0
import Derived.Test.YtajikfnpcobnpaaPFnExactCheckShardsx2
import Derived.Test.YtajikfnpcobnpaaPFnExactCheckShardsx3
import Derived.Test.YtajikfnpcobnpaaPFnExactCheckShardsx4
import Derived.Test.YtajikfnpcobnpaaPFnExactCheckShardsx7
import Derived.Test.YtajikfnpcobnpaaPFnExactCheckShardsx8
import Derived.Test.YtajikfnpcobnpaaPFnExactCheckShardsx9
namespace Go.Proofs.Ytajikfnpcobnpaa.PFnExactCheckShards
open Go.RowKit Go.Proofs.YtajikfnpcobnpaaW.PrintWords Go.Proofs.YtajikfnpcobnpaaW.PrintLast Go.Proofs.YtajikfnpcobnpaaW.PrintMore
attribute [local go_sem] max2_int min2_int max_two min_two max_three min_three max_four min_four   -- for this text's walks alone
set_option linter.unusedVariables false
set_option maxHeartbeats 8000000
set_option maxRecDepth 100000
set_option linter.unusedSimpArgs false

def spec_l3Matrix.f (k:Nat) (a0:Int) (a1:Int):Option ((List (List Int))):=(spec_l2Identity.f k a0).bind fun t215=>((spec_l2Cauchy.f k a1 a0).bind fun t219=>(if t215.length+t219.length < 5864062014805 then (some (t215 ++ t219)) else (none)))
theorem spec_l3Matrix.mono:∀ a0 a1 k,LeO (spec_l3Matrix.f k a0 a1) (spec_l3Matrix.f (k+1) a0 a1):=by
 intro a0 a1 k
 unfold spec_l3Matrix.f
 repeat' first
   | (with_reducible exact spec_l2Cauchy.mono _ _ _)
   | (with_reducible exact spec_l2Identity.mono _ _)
   |(with_reducible exact LeO.refl _)|(with_reducible exact LeO.none _)|(with_reducible refine LeO.ite ?_ ?_)|(with_reducible refine LeO.bind ?_ (fun _=>?_))|exact spec_l2Cauchy.mono _ _ _|exact spec_l2Identity.mono _ _|exact LeO.none _|refine LeO.ite ?_ ?_|refine LeO.bind ?_ (fun _=>?_)
def spec_l3Matrix.T2:Bool × List (List Nat × List Nat):=(true,[([],[]),([0],[0]),([],[]),([],[]),([2,3],[2,3]),([4],[4]),([1,5,4],[1,5]),([0,1,2,3,4,5,6],[]),([7,6,6,0,1,2,3,4,5,6],[6,7])])
def spec_l3Matrix.B2:List Nat:=[0,1,0,0,12,28,63,127,255]
theorem spec_l3Matrix.tab2:rtab .any (opsOf Try.f135 2)=spec_l3Matrix.T2:=by kernel_rfl
theorem spec_l3Matrix.bits2:waitsOk spec_l3Matrix.T2.2 spec_l3Matrix.B2=true:=by kernel_rfl
theorem spec_l3Matrix.calls (k:Nat) (a0:Int) (a1:Int) (r:List (List Int)) (w:World) (h:spec_l3Matrix.f k a0 a1=some r) :
  Calls Try.prog 135 #[.int .i64 a0, .int .i64 a1] w fun e w'=>∃ v0_:Value,e = .returned (.agg #[v0_])∧Kd.N (Kd.slice 5 (Kd.int .u8)) 57 w' w.heap.size (fun k_=>(w.heap.size≤k_)) v0_ r∧Below w.heap.size w w':=by
 have hu43:=Try.underlying43
 have HB:=am (Below.refl w.heap.size w)
 have hfd:∀ (A:Option Addr) (n c:Nat) (w':World),(Instr.field 43 (.agg #[.slice A n c]) 0).run Try.prog w' = .ok (.slice A n c) w':=fun A n c w'=>by kernel_rfl
 have H:((spec_l2Identity.f k a0).bind fun t215=>((spec_l2Cauchy.f k a1 a0).bind fun t219=>(if t215.length+t219.length < 5864062014805 then (some (t215 ++ t219)) else (none))))=some r:=h
 clear h
 replace H:=Option.bind_eq_some_iff.mp H
 obtain ⟨t215,A30,H⟩:=H
 replace H:((spec_l2Cauchy.f k a1 a0).bind fun t219=>(if t215.length+t219.length < 5864062014805 then (some (t215 ++ t219)) else (none)))=some r:=H
 have A3:=am A30
 clear A30
 replace H:=Option.bind_eq_some_iff.mp H
 obtain ⟨t219,A40,H⟩:=H
 replace H:(if t215.length+t219.length < 5864062014805 then (some (t215 ++ t219)) else (none))=some r:=H
 have A4:=am A40
 clear A40
 by_cases c5:t215.length+t219.length < 5864062014805
 ·rw [if_pos c5] at H
  have LMc5:=am c5
  clear c5
  obtain ⟨y222,hy222⟩:∃ y_:List (List Int),y_=(t215 ++ t219):=⟨_,rfl⟩
  replace H:(some y222)=some r:=by first|(rw [hy222];with_reducible exact H)|(have H2_:=(Option.bind_some _ _).symm.trans H;rw [hy222];with_reducible exact H2_)|(have H2_:=(Option.bind_some _ _).symm.trans H;with_reducible exact H2_)|with_reducible exact H|(rw [hy222];exact H)|exact H
  have Ny222:=am hy222
  clear hy222
  obtain rfl:=Option.some.inj H
  go_enter Try.func135,Try.ntmps135
  try go_wp2_with (first|((with_reducible refine gate_dst (N:=4) rfl ?_);refine box_event ?hg (N:=4) ?hd (cs:=#[.slice none 0 0]) (t:=43) ?hr ?_;(case hd=>rfl);(case hg=>rfl);(case hr=>first|(go_simp;done)|(go_simp;rfl));intro gb214 hg w6 hbox hb;have n0_:=am (pu d0 hb);have n1_:=am (hbox);have n2_:=am ((by rw [hg];exact (pz d0):w.heap.size≤gb214));have n3_:=n2_;clear HB;have HB:=n0_;have BK214:=n1_;have GW214:=n2_;have GE214:=n3_;clear n0_ n1_ n2_ n3_;clear hb hbox hg)|((with_reducible refine gate_callee (f:=176) rfl ?_);refine goesL_ (some 7) rfl rfl Try.func176 d3 rfl #[.int .i64 a0] rfl d4 ?_;(with_reducible refine (spec_l2Identity.calls k a0 t215 _ A3.out).mono ?_);rintro e w7 ⟨v216,rfl,ho0,hb⟩;refine ⟨_,rfl,?_⟩;have n0_:=am (Kd.N_lower (Kd.N_mono (ok':=fun k_=>(w.heap.size≤k_)∧k_ ≠ gb214) (Kd.S_N (Kd.S_bound ho0)) (fun k_ hk_=>⟨(Nat.le_trans (pz (by repeat (first|(with_reducible first|exact HB.out|apply pa|apply pb|apply pd|refine pt ?_ GE214.out)|exact HB.out))) hk_.2.1),(Kd.freshB (g:=gb214) (o:=.cells #[.slice none 0 0] 43 (0,0)) (by (with_reducible repeat (first|refine qn ?_ _|refine qd ?_|refine qa ?_ _));exact BK214.out) k_ hk_.2.1)⟩)) (pz (by repeat (first|(with_reducible first|exact HB.out|apply pa|apply pb|apply pd|refine pt ?_ GE214.out)|exact HB.out))));have n1_:=am (qb (g:=gb214) (o:=.cells #[.slice none 0 0] 43 (0,0)) (by (with_reducible repeat (first|refine qn ?_ _|refine qd ?_|refine qa ?_ _));exact BK214.out) hb);have n2_:=am (pu (by repeat (first|(with_reducible first|exact HB.out|apply pa|apply pb|apply pd|refine pt ?_ GE214.out)|exact HB.out)) hb);clear BK214;clear HB;have HO217:=n0_;have BK214:=n1_;have HB:=n2_;clear n0_ n1_ n2_;(try clear hb);(try clear hb2);(try clear hk);(try clear hi);(try clear ho0))|((with_reducible refine gate_dst (N:=5) rfl ?_);refine box_event ?hg (N:=5) ?hd (cs:=#[.slice none 0 0]) (t:=43) ?hr ?_;(case hd=>rfl);(case hg=>rfl);(case hr=>first|(go_simp;done)|(go_simp;rfl));intro gb218 hg w8 hbox hb;have n0_:=am (Kd.N_below (Kd.N_elderB d43 gb218 (Nat.le_of_eq hg.symm)) hb);have n1_:=am (qb (g:=gb214) (o:=.cells #[.slice none 0 0] 43 (0,0)) (by (with_reducible repeat (first|refine qn ?_ _|refine qd ?_|refine qa ?_ _));exact BK214.out) hb);have n2_:=am (pu (by repeat (first|(with_reducible first|exact HB.out|apply pa|apply pb|apply pd|refine pt ?_ GE214.out)|exact HB.out)) hb);have n3_:=am (hbox);have n4_:=am ((by rw [hg];exact (pz (by repeat (first|(with_reducible first|exact HB.out|apply pa|apply pb|apply pd|refine pt ?_ GE214.out)|exact HB.out))):w.heap.size≤gb218));have n5_:=n4_;have n6_:=am ((by rw [hg];exact Nat.ne_of_lt (blk_lt (g:=gb214) (o:=.cells #[.slice none 0 0] 43 (0,0)) (by (with_reducible repeat (first|refine qn ?_ _|refine qd ?_|refine qa ?_ _));exact BK214.out)):gb214 ≠ gb218));have n7_:=am ((by rw [hg];exact Nat.ne_of_gt (blk_lt (g:=gb214) (o:=.cells #[.slice none 0 0] 43 (0,0)) (by (with_reducible repeat (first|refine qn ?_ _|refine qd ?_|refine qa ?_ _));exact BK214.out)):gb218 ≠ gb214));clear HO217;clear BK214;clear HB;have HO217:=n0_;have BK214:=n1_;have HB:=n2_;have BK218:=n3_;have GW218:=n4_;have GE218:=n5_;have NB214_218:=n6_;have NB218_214:=n7_;clear n0_ n1_ n2_ n3_ n4_ n5_ n6_ n7_;clear hb hbox hg;obtain ⟨Ao9,co9,eo9⟩:=Kd.N_slice HO217.out;subst eo9;have hnb10:=NB218_214.out;have hnc10:=NB214_218.out;have hcz11_0:w8.cell? ⟨gb218,0,none⟩=some (.slice none 0 0):=(blk_cell BK218.out 0).trans rfl;have hfz11_0:=blk_frozen BK218.out 0))
  have n0_:Aside0 (Kd.N (Kd.slice 5 (Kd.int .u8)) 57 (w8.setCell ⟨gb218,0,none⟩ (.slice Ao9 t215.length co9)) w.heap.size (fun k_=>(w.heap.size≤k_)∧k_ ≠ gb214∧k_ ≠ gb218) (.slice Ao9 t215.length co9) t215):=⟨by (with_reducible repeat (first|apply Kd.N_alloc|apply Kd.N_drewN|apply Kd.N_drew));exact Kd.N_mono (Kd.N_far (p:=⟨gb218,0,none⟩) (Kd.N_mono HO217.out (fun k_ hk=>(⟨hk,hk.2⟩:_∧k_ ≠ gb218))) (fun _ hk=>hk.2) (.slice Ao9 t215.length co9)) (fun _ hk=>⟨hk.1.1.1,⟨hk.1.1.2,hk.1.2⟩⟩)⟩
  have n1_:Aside0 ((w8.setCell ⟨gb218,0,none⟩ (.slice Ao9 t215.length co9)).heap[gb214]? = some (.cells #[.slice none 0 0] 43 (0,0))):=⟨by (with_reducible repeat (first|refine qn ?_ _|refine qd ?_|refine qa ?_ _));refine blk_far ?_ NB214_218.out _;(with_reducible repeat (first|refine qn ?_ _|refine qd ?_|refine qa ?_ _));exact BK214.out⟩
  have n2_:Aside0 ((w8.setCell ⟨gb218,0,none⟩ (.slice Ao9 t215.length co9)).heap[gb218]? = some (.cells #[.slice Ao9 t215.length co9] 43 (0,0))):=⟨by (with_reducible repeat (first|refine qn ?_ _|refine qd ?_|refine qa ?_ _));refine blk_put (cs:=#[.slice none 0 0]) ?_ 0 _ rfl;(with_reducible repeat (first|refine qn ?_ _|refine qd ?_|refine qa ?_ _));exact BK218.out⟩
  have n3_:Aside0 (Below w.heap.size w (w8.setCell ⟨gb218,0,none⟩ (.slice Ao9 t215.length co9))):=⟨by repeat (first|(with_reducible first|exact HB.out|apply pa|apply pb|apply pd|refine pt ?_ GE214.out|refine pt ?_ GE218.out)|exact HB.out)⟩
  (try clear HO217)
  (try clear BK214)
  (try clear BK218)
  (try clear HB)
  generalize (w8.setCell ⟨gb218,0,none⟩ (.slice Ao9 t215.length co9))=w12 at n0_ n1_ n2_ n3_ ⊢
  have HO217:=n0_
  have BK214:=n1_
  have BK218:=n2_
  have HB:=n3_
  clear n0_ n1_ n2_ n3_
  have n0_:=am (Kd.N_drew HO217.out)
  have n1_:=am (qd BK214.out)
  have n2_:=am (qd BK218.out)
  have n3_:=am (pd HB.out)
  clear HO217
  clear BK214
  clear BK218
  clear HB
  have HO217:=n0_
  have BK214:=n1_
  have BK218:=n2_
  have HB:=n3_
  clear n0_ n1_ n2_ n3_
  refine rS (n:=9) (S:=fun w'=>w'.cell? ⟨gb218,0,none⟩=some (.slice Ao9 t215.length co9)) (ds:=[8]) [(0,8),(2,10),(3,11),(1,9),(4,0),(5,13),(6,0),(7,15),(8,0)] d3 rfl spec_l3Matrix.tab2 spec_l3Matrix.bits2 ((blk_cell BK218.out 0).trans rfl) (fun hHeld HT_ HW_=>?_)
  generalize w12.drew=w13 at HO217 BK214 BK218 HB hHeld ⊢
  refine rR ?_
  refine rO (N:=some 12) HT_ rfl rfl d3 d11 (fun K hK=>?_)
  refine goes_ Try.func186 d3 rfl #[.int .i64 a1, .int .i64 a0] d16 rfl rfl d4 ?_
  with_reducible refine (spec_l2Cauchy.calls k a1 a0 t219 _ A4.out).mono ?_
  rintro e w14 ⟨v220,rfl,ho0,hb⟩
  refine ⟨_,rfl,?_⟩
  have n0_:=am (Kd.N_elder' d43 d22 hb)
  have n1_:=am (Kd.N_lower (Kd.N_mono (ok':=fun k_=>(w.heap.size≤k_)∧some k_ ≠ (.slice Ao9 t215.length co9:Value).ownBlock∧k_ ≠ gb214∧k_ ≠ gb218) (Kd.S_N (Kd.S_bound ho0)) (fun k_ hk_=>⟨(Nat.le_trans (pz (by repeat (first|(with_reducible first|exact HB.out|apply pa|apply pb|apply pd|refine pt ?_ GE214.out|refine pt ?_ GE218.out)|exact HB.out))) hk_.2.1),(Kd.fresh' (Kd.N_lt d43) k_ hk_.2.1),(Kd.freshB (g:=gb214) (o:=.cells #[.slice none 0 0] 43 (0,0)) (by (with_reducible repeat (first|refine qn ?_ _|refine qd ?_|refine qa ?_ _));exact BK214.out) k_ hk_.2.1),(Kd.freshB (g:=gb218) (o:=.cells #[.slice Ao9 t215.length co9] 43 (0,0)) (by (with_reducible repeat (first|refine qn ?_ _|refine qd ?_|refine qa ?_ _));exact BK218.out) k_ hk_.2.1)⟩)) (pz (by repeat (first|(with_reducible first|exact HB.out|apply pa|apply pb|apply pd|refine pt ?_ GE214.out|refine pt ?_ GE218.out)|exact HB.out))))
  have n2_:=am (qb (g:=gb214) (o:=.cells #[.slice none 0 0] 43 (0,0)) (by (with_reducible repeat (first|refine qn ?_ _|refine qd ?_|refine qa ?_ _));exact BK214.out) hb)
  have n3_:=am (qb (g:=gb218) (o:=.cells #[.slice Ao9 t215.length co9] 43 (0,0)) (by (with_reducible repeat (first|refine qn ?_ _|refine qd ?_|refine qa ?_ _));exact BK218.out) hb)
  have n4_:=am (pu (by repeat (first|(with_reducible first|exact HB.out|apply pa|apply pb|apply pd|refine pt ?_ GE214.out|refine pt ?_ GE218.out)|exact HB.out)) hb)
  clear HO217
  clear BK214
  clear BK218
  clear HB
  have HO217:=n0_
  have HO221:=n1_
  have BK214:=n2_
  have BK218:=n3_
  have HB:=n4_
  clear n0_ n1_ n2_ n3_ n4_
  (try clear hb)
  (try clear hb2)
  (try clear hk)
  (try clear hi)
  (try clear ho0)
  obtain ⟨Ao16,co16,eo16⟩:=Kd.N_slice HO221.out
  (first|subst eo16|(injection eo16 with f1_ f2_ f3_;have f4_:=f1_.symm;have f5_:=f3_.symm;clear f1_ f2_ f3_;subst f4_;subst f5_))
  refine hK.out _ _ ((blk_cell BK218.out 0).trans rfl) (fun hHeld=>?_)
  clear hK K
  refine rN (a':=?_) ?_ ?_
  rotate_left
  ·show Act.put _ (some 12) _=_
   simp only [Act.put,q1,q2,q3,i64_w,i32_w]
   rfl
  refine rR ?_
  refine rO (N:=some 14) HT_ rfl rfl d3 d11 (fun K hK=>?_)
  refine Kd.N_append_rows_step (Kd.slice 5 (Kd.int .u8)) (w0:=w) w.heap.size d16 (.tmp 9) (.tmp 13) 37 57 (.slice none 0 0) 24 rfl Try.underlying37 info57 rfl d11 d6 (.slice Ao9 t215.length co9) t215 t219 _ _ _ (fun k_=>(w.heap.size≤k_)∧k_ ≠ gb214∧k_ ≠ gb218) (fun k_=>((fun k_=>(w.heap.size≤k_)∧k_ ≠ gb214∧k_ ≠ gb218)) k_∧some k_ ≠ (.slice Ao9 t215.length co9:Value).ownBlock) rfl rfl ?aO ?aR (fun _ hk=>hk) ?aF ?aB ?aS ?aL ?_
  (case aR=>exact (by skip;exact Kd.N_F (Kd.N_mono (ok':=(fun k_=>((fun k_=>(w.heap.size≤k_)∧k_ ≠ gb214∧k_ ≠ gb218)) k_∧some k_ ≠ (.slice Ao9 t215.length co9:Value).ownBlock)) (HO221.out) (fun k_ hk=>⟨⟨hk.1,⟨hk.2.2.1,hk.2.2.2⟩⟩,hk.2.1⟩))))
  (case aB=>exact (by repeat (first|(with_reducible first|exact HB.out|apply pa|apply pb|apply pd|refine pt ?_ GE214.out|refine pt ?_ GE218.out)|exact HB.out)))
  (case aF=>exact (fun k_ hk=>⟨(Nat.le_trans (pz (by repeat (first|(with_reducible first|exact HB.out|apply pa|apply pb|apply pd|refine pt ?_ GE214.out|refine pt ?_ GE218.out)|exact HB.out))) hk),Kd.freshB (g:=gb214) (o:=.cells #[.slice none 0 0] 43 (0,0)) (by (with_reducible repeat (first|refine qn ?_ _|refine qd ?_|refine qa ?_ _));exact BK214.out) k_ hk,Kd.freshB (g:=gb218) (o:=.cells #[.slice Ao9 t215.length co9] 43 (0,0)) (by (with_reducible repeat (first|refine qn ?_ _|refine qd ?_|refine qa ?_ _));exact BK218.out) k_ hk⟩))
  (case aO=>exact (by (with_reducible repeat (first|apply Kd.N_alloc|apply Kd.N_drewN|apply Kd.N_drew));exact Kd.N_mono HO217.out (fun _ hk=>⟨hk.1.1,⟨hk.1.2.1,hk.1.2.2⟩⟩)))
  (case aS=>exact (pz (by repeat (first|(with_reducible first|exact HB.out|apply pa|apply pb|apply pd|refine pt ?_ GE214.out|refine pt ?_ GE218.out)|exact HB.out))))
  (case aL=>have:=LMc5.out;omega)
  intro v223 w15 ho hb hg hat
  rw [← Ny222.out] at ho
  have n0_:=am (blk_grown (g:=gb214) (o:=.cells #[.slice none 0 0] 43 (0,0)) (by (with_reducible repeat (first|refine qn ?_ _|refine qd ?_|refine qa ?_ _));exact BK214.out) hg (Kd.N_ne HO217.out BK214.out d11))
  have n1_:=am (blk_grown (g:=gb218) (o:=.cells #[.slice Ao9 t215.length co9] 43 (0,0)) (by (with_reducible repeat (first|refine qn ?_ _|refine qd ?_|refine qa ?_ _));exact BK218.out) hg (Kd.N_ne HO217.out BK218.out d11))
  have n2_:=am (Kd.N_afterv (ok:=(fun k_=>(w.heap.size≤k_)∧k_ ≠ gb214∧k_ ≠ gb218)) (by (with_reducible repeat (first|apply Kd.N_alloc|apply Kd.N_drewN|apply Kd.N_drew));exact Kd.N_mono HO221.out (fun _ hk=>⟨⟨hk.1,⟨hk.2.2.1,hk.2.2.2⟩⟩,hk.2.1⟩)) hg hat)
  have n3_:=am (hb)
  have n4_:=am (ho)
  clear BK214
  clear BK218
  clear HO221
  clear HB
  clear HO217
  have BK214:=n0_
  have BK218:=n1_
  have HO221:=n2_
  have HB:=n3_
  have HO224:=n4_
  clear n0_ n1_ n2_ n3_ n4_
  clear ho hb hg hat
  obtain ⟨Ao17,co17,eo17⟩:=Kd.N_slice HO224.out
  (first|subst eo17|(injection eo17 with f1_ f2_ f3_;have f4_:=f1_.symm;have f5_:=f3_.symm;clear f1_ f2_ f3_;subst f4_;subst f5_))
  refine hK.out _ _ ((blk_cell BK218.out 0).trans rfl) (fun hHeld=>?_)
  clear hK K
  refine rN (a':=?_) ?_ ?_
  rotate_left
  ·show Act.put _ (some 14) _=_
   simp only [Act.put,q1,q2,q3,i64_w,i32_w]
   rfl
  refine rR ?_
  refine rL (N:=none) HT_ rfl rfl d3 d11 (fun K hK=>?_)
  have hs18:w15.cell? ⟨gb218,0,none⟩=some (.slice Ao9 t215.length co9):=(blk_cell BK218.out 0).trans rfl
  have hfs18:=blk_frozen BK218.out 0
  have hns18_0:=NB214_218.out
  have hms18_0:=NB218_214.out
  refine skip_ (w1:=?_) d16 rfl ?_ ?_
  rotate_left
  ·go_simp
   rfl
  refine hK.out _ _ ?_
  clear hK K
  refine rD HT_ d3 ?_
  have hcz19_0:w15.cell? ⟨gb218,0,none⟩=some (.slice Ao9 t215.length co9):=(blk_cell BK218.out 0).trans rfl
  have hfz19_0:=blk_frozen BK218.out 0
  have hcz20_0:w15.cell? ⟨gb214,0,none⟩=some (.slice none 0 0):=(blk_cell BK214.out 0).trans rfl
  have hfz20_0:=blk_frozen BK214.out 0
  try go_wp2
  refine bodyPost_ret (results_cell_row rfl _ _ gb214 43 #[.slice Ao17 y222.length co17] (0,0) _ rfl (by (with_reducible repeat (first|refine qn ?_ _|refine qd ?_|refine qa ?_ _));refine blk_put (cs:=#[.slice none 0 0]) ?_ 0 _ rfl;(with_reducible repeat (first|refine qn ?_ _|refine qd ?_|refine qa ?_ _));refine blk_far ?_ NB214_218.out _;(with_reducible repeat (first|refine qn ?_ _|refine qd ?_|refine qa ?_ _));exact BK214.out) Try.underlying43 rfl d3) rfl ?_
  exact ⟨_,d5,by (with_reducible repeat (first|apply Kd.N_alloc|apply Kd.N_drewN|apply Kd.N_drew));exact Kd.N_mono (Kd.N_far (p:=⟨gb214,0,none⟩) (Kd.N_far (p:=⟨gb218,0,none⟩) (Kd.N_mono (Kd.N_mono HO224.out (fun k_ hk=>(⟨hk,hk.2.2⟩:_∧k_ ≠ gb218))) (fun k_ hk=>(⟨hk,hk.1.2.1⟩:_∧k_ ≠ gb214))) (fun _ hk=>hk.1.2) (.slice Ao17 y222.length co17)) (fun _ hk=>hk.2) (.slice Ao17 y222.length co17)) (fun _ hk=>hk.1.1.1),by repeat (first|(with_reducible first|exact HB.out|apply pa|apply pb|apply pd|refine pt ?_ GE214.out|refine pt ?_ GE218.out)|exact HB.out)⟩
 rw [if_neg c5] at H
 exact absurd H d20

def spec_l3Decode.l0:Nat→Int→Int→List Int→List ByteArray→List (S84)→Int→Int→Option (List ByteArray × Bool)
 | 0,_,_,_,_,_,_,_=>none
 | k+1,x1,x2,x8,x9,x16,x17,x18=>if x18 < x17 then (if 0≤x18 then (if x18 < (x16.length:Int) then (if x8.length < 17592186044416 then (if x9.length < 8796093022208 then (spec_l3Decode.l0 k x1 x2 (x8 ++ [(rd_T84 x16 x18).f0]) (x9 ++ [(rd_T84 x16 x18).f1]) x16 x17 (wrap64 (x18+1))) else (none)) else (none)) else (none)) else (none)) else ((spec_l3Matrix.f k x1 x2).bind fun t237=>((spec_l3All.f k x1).bind fun t240=>((spec_l2Part.f k t237 x8 t240).bind fun t243=>((spec_l2Inverse.f t243).bind fun bt246=>(if bt246.2=true then ((spec_l3Rows.f k bt246.1 x9).bind fun t251=>(some (t251,true))) else (some (([]:List ByteArray),false)))))))
def spec_l3Decode.f (k:Nat) (l0:List (S84)) (a1:Int) (a2:Int):Option (List ByteArray × Bool):=if 0≤a1 then (if a1≤(l0.length:Int) then ((some (l0.take (a1:Int).toNat:List (S84))).bind fun y225=>(spec_l3Decode.l0 k a1 a2 ([]:List Int) ([]:List ByteArray) y225 (y225.length:Int) 0)) else (none)) else (none)
theorem spec_l3Decode.mono_l:∀ k,(∀ y0 y1 y2 y3 y4 y5 y6,LeO (spec_l3Decode.l0 k y0 y1 y2 y3 y4 y5 y6) (spec_l3Decode.l0 (k+1) y0 y1 y2 y3 y4 y5 y6))
 | 0=>fun _ _ _ _ _ _ _ r h=>by simp [spec_l3Decode.l0] at h
 | k+1=>by
  have ih0:=spec_l3Decode.mono_l k
  intro y0 y1 y2 y3 y4 y5 y6
  unfold spec_l3Decode.l0
  repeat' first
  | (with_reducible exact ih0 _ _ _ _ _ _ _)
  | (with_reducible exact spec_l2Part.mono _ _ _ _)
  | (with_reducible exact spec_l3All.mono _ _)
  | (with_reducible exact spec_l3Matrix.mono _ _ _)
  | (with_reducible exact spec_l3Rows.mono _ _ _)
  |(with_reducible exact LeO.refl _)|(with_reducible exact LeO.none _)|(with_reducible refine LeO.ite ?_ ?_)|(with_reducible refine LeO.bind ?_ (fun _=>?_))|exact ih0 _ _ _ _ _ _ _|exact spec_l2Part.mono _ _ _ _|exact spec_l3All.mono _ _|exact spec_l3Matrix.mono _ _ _|exact spec_l3Rows.mono _ _ _|exact LeO.none _|refine LeO.ite ?_ ?_|refine LeO.bind ?_ (fun _=>?_)
theorem spec_l3Decode.mono:∀ a0 a1 a2 k,LeO (spec_l3Decode.f k a0 a1 a2) (spec_l3Decode.f (k+1) a0 a1 a2):=by
 intro a0 a1 a2 k
 have ih0:=spec_l3Decode.mono_l k
 unfold spec_l3Decode.f
 repeat' first
   | (with_reducible exact ih0 _ _ _ _ _ _ _)
   | (with_reducible exact spec_l2Part.mono _ _ _ _)
   | (with_reducible exact spec_l3All.mono _ _)
   | (with_reducible exact spec_l3Matrix.mono _ _ _)
   | (with_reducible exact spec_l3Rows.mono _ _ _)
   |(with_reducible exact LeO.refl _)|(with_reducible exact LeO.none _)|(with_reducible refine LeO.ite ?_ ?_)|(with_reducible refine LeO.bind ?_ (fun _=>?_))|exact ih0 _ _ _ _ _ _ _|exact spec_l2Part.mono _ _ _ _|exact spec_l3All.mono _ _|exact spec_l3Matrix.mono _ _ _|exact spec_l3Rows.mono _ _ _|exact LeO.none _|refine LeO.ite ?_ ?_|refine LeO.bind ?_ (fun _=>?_)
theorem spec_l3Decode.calls (k:Nat) (A0:Option Addr) (c0:Nat) (l0:List (S84)) (a1:Int) (a2:Int) (r1:List ByteArray) (r2:Bool) (w:World) (hr0:Kd.C k84 w A0 l0.length l0) (hc0:l0.length≤c0) (h:spec_l3Decode.f k l0 a1 a2=some (r1,r2)) :
  Calls Try.prog 143 #[.slice A0 l0.length c0, .int .i64 a1, .int .i64 a2] w fun e w'=>∃ v0_:Value,e = .returned (.tuple #[v0_, .bool r2])∧Kd.R Kd.string 9 w' w.heap.size (fun _=>True) v0_ r1∧Below w.heap.size w w':=by
 have hu84:=Try.underlying84
 have hu43:=Try.underlying43
 have HR0:=am hr0
 have HC0:=am hc0
 clear hr0 hc0
 have HB:=am (Below.refl w.heap.size w)
 have H:(if 0≤a1 then (if a1≤(l0.length:Int) then ((some (l0.take (a1:Int).toNat:List (S84))).bind fun y225=>(spec_l3Decode.l0 k a1 a2 ([]:List Int) ([]:List ByteArray) y225 (y225.length:Int) 0)) else (none)) else (none))=some (r1,r2):=h
 clear h
 by_cases c4:0≤a1
 ·rw [if_pos c4] at H
  have c4b0:=eq_true c4
  have c4b1:decide (0≤a1)=true:=decide_eq_true c4
  clear c4
  by_cases c5:a1≤(l0.length:Int)
  ·rw [if_pos c5] at H
   have c5b0:=eq_true c5
   have c5b1:decide (a1≤(l0.length:Int))=true:=decide_eq_true c5
   clear c5
   obtain ⟨y225,hy225⟩:∃ y_:List (S84),y_=(l0.take (a1:Int).toNat):=⟨_,rfl⟩
   replace H:(spec_l3Decode.l0 k a1 a2 ([]:List Int) ([]:List ByteArray) y225 (y225.length:Int) 0)=some (r1,r2):=by first|(rw [hy225];with_reducible exact H)|(have H2_:=(Option.bind_some _ _).symm.trans H;rw [hy225];with_reducible exact H2_)|(have H2_:=(Option.bind_some _ _).symm.trans H;with_reducible exact H2_)|with_reducible exact H|(rw [hy225];exact H)|exact H
   have Ny225:=am hy225
   clear hy225
   have H':=am H
   clear H
   have q6:(a1:Int)≤((l0.length:Int):Int):=od d1
   obtain ⟨i06,hi06,_,hsz6,_⟩:=info_parts info84
   have hroom6:l0.length≤c0:=HC0.out
   have hC6:Kd.C k84 _ A0 l0.length l0:=HR0.out
   have hcut6:=cut_to (P:=Try.prog) 87 84 .i64 Try.underlying87 hi06 A0 l0.length c0 a1 (od d1) q6 hroom6
   have hr6:=Kd.C_take (m:=(a1:Int).toNat) hC6 d6
   have hy6:y225.length=(a1:Int).toNat:=(by rw [Ny225.out,List.length_take];omega)
   rw [← Ny225.out] at hr6
   rw [← hy6] at hcut6
   have HR228:=am hr6
   have HC228:=am (show y225.length≤c0 from by omega)
   clear hr6 hC6 hroom6 hi06 hsz6
   have KY6:=am hy6
   clear hy6
   replace q6:=eq_true q6
   go_enter Try.func143,Try.ntmps143
   go_wp2
   go_loopg [8,9,18] k (fun kq v8 v9 v18 w'=>∃ (x8_1:List Int) (x9_1:List ByteArray) (x18_1:Int),v18 = .int .i64 x18_1∧Aside0 (spec_l3Decode.l0 kq a1 a2 x8_1 x9_1 y225 (y225.length:Int) x18_1=some (r1,r2))∧Aside0 (kq≤k)∧Aside0 (Kd.R (Kd.int .i64) 3 w' w.heap.size (fun _=>True) v8 x8_1)∧Aside0 (Kd.R Kd.string 9 w' w.heap.size (fun _=>True) v9 x9_1)∧Aside0 (Below w.heap.size w w'))
   case atStart=>exact ⟨(([]:List Int)),(([]:List ByteArray)),(0),d2,H',⟨Nat.le_refl _⟩,⟨d12⟩,⟨d12⟩,⟨d0⟩⟩
   case round =>
    clear H'
    try clear c1
    try clear p2
    try clear c4
    try clear c4b0
    try clear c4b1
    try clear c5
    try clear c5b0
    try clear c5b1
    try clear q6
    try clear q6
    obtain ⟨x8_1,x9_1,x18_1,rfl,HA,HK1,HO_8,HO_9,HB⟩:=hrel
    cases gk with
    | zero=>exact absurd HA.out (by simp [spec_l3Decode.l0])
    | succ k1 =>
     have H:=HA.out
     clear HA
     simp only [spec_l3Decode.l0] at H
     by_cases c7:x18_1 < (y225.length:Int)
     ·rw [if_pos c7] at H
      have c7b0:decide (x18_1 < (y225.length:Int))=true:=decide_eq_true c7
      clear c7
      by_cases c8:0≤x18_1
      ·rw [if_pos c8] at H
       have c8b0:decide (0≤x18_1)=true:=decide_eq_true c8
       clear c8
       by_cases c9:x18_1 < (y225.length:Int)
       ·rw [if_pos c9] at H
        have c9b0:decide (x18_1 < (y225.length:Int))=true:=decide_eq_true c9
        clear c9
        by_cases c10:x8_1.length < 17592186044416
        ·rw [if_pos c10] at H
         have LMc10:=am c10
         clear c10
         obtain ⟨y231,hy231⟩:∃ y_:List Int,y_=(x8_1 ++ [(rd_T84 y225 x18_1).f0]):=⟨_,rfl⟩
         replace H:(if x9_1.length < 8796093022208 then (spec_l3Decode.l0 k1 a1 a2 y231 (x9_1 ++ [(rd_T84 y225 x18_1).f1]) y225 (y225.length:Int) (wrap64 (x18_1+1))) else (none))=some (r1,r2):=by first|(rw [hy231];with_reducible exact H)|(have H2_:=(Option.bind_some _ _).symm.trans H;rw [hy231];with_reducible exact H2_)|(have H2_:=(Option.bind_some _ _).symm.trans H;with_reducible exact H2_)|with_reducible exact H|(rw [hy231];exact H)|exact H
         have Ny231:=am hy231
         clear hy231
         by_cases c11:x9_1.length < 8796093022208
         ·rw [if_pos c11] at H
          have LMc11:=am c11
          clear c11
          obtain ⟨y234,hy234⟩:∃ y_:List ByteArray,y_=(x9_1 ++ [(rd_T84 y225 x18_1).f1]):=⟨_,rfl⟩
          replace H:(spec_l3Decode.l0 k1 a1 a2 y231 y234 y225 (y225.length:Int) (wrap64 (x18_1+1)))=some (r1,r2):=by first|(rw [hy234];with_reducible exact H)|(have H2_:=(Option.bind_some _ _).symm.trans H;rw [hy234];with_reducible exact H2_)|(have H2_:=(Option.bind_some _ _).symm.trans H;with_reducible exact H2_)|with_reducible exact H|(rw [hy234];exact H)|exact H
          have Ny234:=am hy234
          clear hy234
          have H':=am H
          clear H
          have p229:0≤(x18_1:Int):=od d1
          have q229:x18_1 < (y225.length:Int):=od d1
          obtain ⟨ad229,e229,hx229_0,hx229_1⟩:=at_T84 HR228.out x18_1 p229 q229
          cases e229
          replace hx229_0:=(HB.out.cell (World.block_lt_of_cell? w _ hx229_0)).trans hx229_0
          replace hx229_1:=(HB.out.cell (World.block_lt_of_cell? w _ hx229_1)).trans hx229_1
          replace p229:=eq_true p229
          replace q229:=eq_true q229
          go_wp2_with (first|((with_reducible refine gate_dst (N:=11) rfl ?_);refine box_event ?hg (N:=11) ?hd (cs:=#[.int .i64 0, .string (⟨#[]⟩:ByteArray)]) (t:=84) ?hr ?_;(case hd=>rfl);(case hg=>rfl);(case hr=>first|(go_simp;done)|(go_simp;rfl));intro gb230 hg w12 hbox hb;have n0_:=am (Kd.R_below d8 hb);have n1_:=am (Kd.R_below d9 hb);have n2_:=am (pu d0 hb);have n3_:=am (hbox);have n4_:=am ((by rw [hg];exact (pz d0):w.heap.size≤gb230));have n5_:=n4_;clear HO_8;clear HO_9;clear HB;have HO_8:=n0_;have HO_9:=n1_;have HB:=n2_;have BK230:=n3_;have GW230:=n4_;have GE230:=n5_;clear n0_ n1_ n2_ n3_ n4_ n5_;clear hb hbox hg;have hcz13_0:w12.cell? ⟨gb230,0,none⟩=some (.int .i64 0):=(blk_cell BK230.out 0).trans rfl;have hcz13_1:w12.cell? ⟨gb230,1,none⟩=some (.string (⟨#[]⟩:ByteArray)):=(blk_cell BK230.out 1).trans rfl;have hfz13_0:=blk_frozen BK230.out 0;have hfz13_1:=blk_frozen BK230.out 1)|((with_reducible refine gate_builtin (b:=.append) (xs:=#[.tmp 22, .tmp 25]) rfl ?_);at_builtin;refine Kd.R_append (Kd.int .i64) (w0:=w) w.heap.size rfl (.tmp 22) (.tmp 25) 25 3 (.int .i64 0) 8 rfl Try.underlying25 info3 rfl d11 d6 u8 x8_1 ((rd_T84 y225 x18_1).f0) [.int .i64 ((rd_T84 y225 x18_1).f0)] (fun _=>True) (fun _=>False) rfl (by first|(go_simp;done)|(go_simp;rfl)) ?aP (fun _ hk=>hk.elim) ?aF ?aO ?aB ?aS ?aL ?_;(case aP=>exact rfl);(case aB=>exact (by repeat (first|(with_reducible first|exact HB.out|apply pa|apply pb|apply pd|refine pt ?_ GE230.out)|exact HB.out)));(case aF=>exact (fun _ _=>trivial));(case aO=>exact (by (with_reducible repeat (first|apply Kd.R_alloc|apply Kd.R_drewN|apply Kd.R_drew));exact Kd.R_mono (Kd.R_far (p:=⟨gb230,1,none⟩) (Kd.R_far (p:=⟨gb230,0,none⟩) (Kd.R_types HO_8.out BK230.out d11) (fun _ hk=>hk.2) (.int .i64 ((rd_T84 y225 x18_1).f0))) (fun _ hk=>hk.2) (.string ((rd_T84 y225 x18_1).f1))) (fun _ hk=>trivial)));(case aS=>exact (pz (by repeat (first|(with_reducible first|exact HB.out|apply pa|apply pb|apply pd|refine pt ?_ GE230.out)|exact HB.out))));(case aL=>have:=LMc10.out;omega);intro v232 w14 ho hb hg hat;rw [← Ny231.out] at ho;have n0_:=am (Kd.R_over' (by (with_reducible repeat (first|apply Kd.R_alloc|apply Kd.R_drewN|apply Kd.R_drew));exact (Kd.R_mono (Kd.R_far (p:=⟨gb230,1,none⟩) (Kd.R_far (p:=⟨gb230,0,none⟩) (Kd.R_types HO_9.out BK230.out d11) (fun _ hk=>hk.2) (.int .i64 ((rd_T84 y225 x18_1).f0))) (fun _ hk=>hk.2) (.string ((rd_T84 y225 x18_1).f1))) (fun _ h_=>h_.1))) (Kd.R_typed (by (with_reducible repeat (first|apply Kd.R_alloc|apply Kd.R_drewN|apply Kd.R_drew));exact (Kd.R_mono (Kd.R_far (p:=⟨gb230,1,none⟩) (Kd.R_far (p:=⟨gb230,0,none⟩) (Kd.R_types HO_8.out BK230.out d11) (fun _ hk=>hk.2) (.int .i64 ((rd_T84 y225 x18_1).f0))) (fun _ hk=>hk.2) (.string ((rd_T84 y225 x18_1).f1))) (fun _ h_=>h_.1)))) d11 hg);have n1_:=am (blk_grown (g:=gb230) (o:=.cells #[.int .i64 ((rd_T84 y225 x18_1).f0), .string ((rd_T84 y225 x18_1).f1)] 84 (0,0)) (by (with_reducible repeat (first|refine qn ?_ _|refine qd ?_|refine qa ?_ _));refine blk_put (cs:=#[.int .i64 ((rd_T84 y225 x18_1).f0), .string (⟨#[]⟩:ByteArray)]) ?_ 1 _ rfl;(with_reducible repeat (first|refine qn ?_ _|refine qd ?_|refine qa ?_ _));refine blk_put (cs:=#[.int .i64 0, .string (⟨#[]⟩:ByteArray)]) ?_ 0 _ rfl;(with_reducible repeat (first|refine qn ?_ _|refine qd ?_|refine qa ?_ _));exact BK230.out) hg (Kd.R_ne HO_8.out BK230.out d11));have n2_:=am (hb);have n3_:=am (ho);clear HO_9;clear BK230;clear HB;clear HO_8;have HO_9:=n0_;have BK230:=n1_;have HB:=n2_;have HO233:=n3_;clear n0_ n1_ n2_ n3_;clear ho hb hg hat;have hcz15_0:w14.cell? ⟨gb230,0,none⟩=some (.int .i64 ((rd_T84 y225 x18_1).f0)):=(blk_cell BK230.out 0).trans rfl;have hcz15_1:w14.cell? ⟨gb230,1,none⟩=some (.string ((rd_T84 y225 x18_1).f1)):=(blk_cell BK230.out 1).trans rfl;have hfz15_0:=blk_frozen BK230.out 0;have hfz15_1:=blk_frozen BK230.out 1)|((with_reducible refine gate_builtin (b:=.append) (xs:=#[.tmp 27, .tmp 30]) rfl ?_);at_builtin;refine Kd.R_append Kd.string (w0:=w) w.heap.size rfl (.tmp 27) (.tmp 30) 22 9 (.string ⟨#[]⟩) 16 rfl Try.underlying22 info9 rfl d11 d6 u9 x9_1 ((rd_T84 y225 x18_1).f1) [.string ((rd_T84 y225 x18_1).f1)] (fun _=>True) (fun _=>False) rfl rfl ?aP (fun _ hk=>hk.elim) ?aF ?aO ?aB ?aS ?aL ?_;(case aP=>exact rfl);(case aB=>exact (by repeat (first|(with_reducible first|exact HB.out|apply pa|apply pb|apply pd|refine pt ?_ GE230.out)|exact HB.out)));(case aF=>exact (fun _ _=>trivial));(case aO=>exact d9);(case aS=>exact (pz (by repeat (first|(with_reducible first|exact HB.out|apply pa|apply pb|apply pd|refine pt ?_ GE230.out)|exact HB.out))));(case aL=>have:=LMc11.out;omega);intro v235 w16 ho hb hg hat;rw [← Ny234.out] at ho;have n0_:=am (blk_grown (g:=gb230) (o:=.cells #[.int .i64 ((rd_T84 y225 x18_1).f0), .string ((rd_T84 y225 x18_1).f1)] 84 (0,0)) (by (with_reducible repeat (first|refine qn ?_ _|refine qd ?_|refine qa ?_ _));exact BK230.out) hg (Kd.R_ne HO_9.out BK230.out d11));have n1_:=am (Kd.R_over' (by (with_reducible repeat (first|apply Kd.R_alloc|apply Kd.R_drewN|apply Kd.R_drew));exact HO233.out) (Kd.R_typed d9) d11 hg);have n2_:=am (hb);have n3_:=am (ho);clear BK230;clear HO233;clear HB;clear HO_9;have BK230:=n0_;have HO233:=n1_;have HB:=n2_;have HO236:=n3_;clear n0_ n1_ n2_ n3_;clear ho hb hg hat))
          go_roundg k1
          case measure=>have:=HK1.out;omega
          case rel=>exact ⟨(y231),(y234),(wrap64 (x18_1+1)),d2,H',⟨d26⟩,⟨by (with_reducible repeat (first|apply Kd.R_alloc|apply Kd.R_drewN|apply Kd.R_drew));exact HO233.out⟩,⟨by (with_reducible repeat (first|apply Kd.R_alloc|apply Kd.R_drewN|apply Kd.R_drew));exact HO236.out⟩,⟨by repeat (first|(with_reducible first|exact HB.out|apply pa|apply pb|apply pd|refine pt ?_ GE230.out)|exact HB.out)⟩⟩
         rw [if_neg c11] at H
         exact absurd H d20
        rw [if_neg c10] at H
        exact absurd H d20
       rw [if_neg c9] at H
       exact absurd H d20
      rw [if_neg c8] at H
      exact absurd H d20
     rw [if_neg c7] at H
     have c7b0:decide (x18_1 < (y225.length:Int))=false:=decide_eq_false c7
     clear c7
     replace H:=Option.bind_eq_some_iff.mp H
     obtain ⟨t237,A170,H⟩:=H
     replace H:((spec_l3All.f k1 a1).bind fun t240=>((spec_l2Part.f k1 t237 x8_1 t240).bind fun t243=>((spec_l2Inverse.f t243).bind fun bt246=>(if bt246.2=true then ((spec_l3Rows.f k1 bt246.1 x9_1).bind fun t251=>(some (t251,true))) else (some (([]:List ByteArray),false))))))=some (r1,r2):=H
     have A17:=am A170
     clear A170
     replace H:=Option.bind_eq_some_iff.mp H
     obtain ⟨t240,A180,H⟩:=H
     replace H:((spec_l2Part.f k1 t237 x8_1 t240).bind fun t243=>((spec_l2Inverse.f t243).bind fun bt246=>(if bt246.2=true then ((spec_l3Rows.f k1 bt246.1 x9_1).bind fun t251=>(some (t251,true))) else (some (([]:List ByteArray),false)))))=some (r1,r2):=H
     have A18:=am A180
     clear A180
     replace H:=Option.bind_eq_some_iff.mp H
     obtain ⟨t243,A190,H⟩:=H
     replace H:((spec_l2Inverse.f t243).bind fun bt246=>(if bt246.2=true then ((spec_l3Rows.f k1 bt246.1 x9_1).bind fun t251=>(some (t251,true))) else (some (([]:List ByteArray),false))))=some (r1,r2):=H
     have A19:=am A190
     clear A190
     replace H:=Option.bind_eq_some_iff.mp H
     obtain ⟨⟨t246,t249⟩,A200,H⟩:=H
     replace H:(if t249=true then ((spec_l3Rows.f k1 t246 x9_1).bind fun t251=>(some (t251,true))) else (some (([]:List ByteArray),false)))=some (r1,r2):=H
     have A20:=am A200
     clear A200
     by_cases c21:t249=true
     ·subst c21
      have H1:((spec_l3Rows.f k1 t246 x9_1).bind fun t251=>(some (t251,true)))=some (r1,r2):=by rw [if_pos rfl] at H;exact H
      clear H
      have H:=H1
      clear H1
      replace H:=Option.bind_eq_some_iff.mp H
      obtain ⟨t251,A220,H⟩:=H
      replace H:(some (t251,true))=some (r1,r2):=H
      have A22:=am A220
      clear A220
      simp only [Option.some.injEq,Prod.mk.injEq] at H
      obtain ⟨rfl,rfl⟩:=H
      go_wp2_with (first|((with_reducible refine gate_callee (f:=135) rfl ?_);refine goesL_ (some 36) rfl rfl Try.func135 d3 rfl #[.int .i64 a1, .int .i64 a2] rfl d4 ?_;(with_reducible refine (spec_l3Matrix.calls k1 a1 a2 t237 _ A17.out).mono ?_);rintro e w23 ⟨v238,rfl,ho0,hb⟩;refine ⟨_,rfl,?_⟩;have n0_:=am (Kd.R_below d8 hb);have n1_:=am (Kd.R_below d9 hb);have n2_:=am (Kd.N_lower (Kd.N_mono (ok':=fun k_=>some k_ ≠ (u8:Value).ownBlock∧some k_ ≠ (u9:Value).ownBlock) ho0 (fun k_ hk_=>⟨(Kd.fresh' (Kd.R_lt d8) k_ hk_),(Kd.fresh' (Kd.R_lt d9) k_ hk_)⟩)) (pz d0));have n3_:=am (pu d0 hb);clear HO_8;clear HO_9;clear HB;have HO_8:=n0_;have HO_9:=n1_;have HO239:=n2_;have HB:=n3_;clear n0_ n1_ n2_ n3_;(try clear hb);(try clear hb2);(try clear hk);(try clear hi);(try clear ho0))|((with_reducible refine gate_callee (f:=93) rfl ?_);refine goesL_ (some 39) rfl rfl Try.func93 d3 rfl #[.int .i64 a1] rfl d4 ?_;(with_reducible refine (spec_l3All.calls k1 a1 t240 _ A18.out).mono ?_);rintro e w24 ⟨v241,rfl,ho0,hb⟩;refine ⟨_,rfl,?_⟩;have n0_:=am (Kd.R_elder' d8 (Kd.R_base ho0) hb);have n1_:=am (Kd.R_below d9 hb);have n2_:=am (Kd.N_elder' d15 (Kd.R_base ho0) hb);have n3_:=am (Kd.R_lower (Kd.R_new' ho0 (Kd.R_lt d8)) (pz d0));have n4_:=am (pu d0 hb);clear HO_8;clear HO_9;clear HO239;clear HB;have HO_8:=n0_;have HO_9:=n1_;have HO239:=n2_;have HO242:=n3_;have HB:=n4_;clear n0_ n1_ n2_ n3_ n4_;(try clear hb);(try clear hb2);(try clear hk);(try clear hi);(try clear ho0);obtain ⟨Ao25,co25,eo25⟩:=Kd.N_slice HO239.out;subst eo25;obtain ⟨Ao26,co26,eo26⟩:=Kd.R_slice HO_8.out;subst eo26;obtain ⟨Ao27,co27,eo27⟩:=Kd.R_slice HO242.out;subst eo27)|((with_reducible refine gate_callee (f:=92) rfl ?_);refine goesL_ (some 40) rfl rfl Try.func92 d3 rfl #[.agg #[.slice Ao25 t237.length co25], .slice Ao26 x8_1.length co26, .slice Ao27 t240.length co27] rfl d4 ?_;(with_reducible refine (spec_l2Part.calls k1 _ _ t237 _ _ x8_1 _ _ t240 t243 _ ?side1 ?side2 ?side3 ?side4 ?side5 ?side6 A19.out).mono ?_);(case side1=>repeat (first|exact (Kd.N_reads' HO239.out).2.2|(with_reducible refine Kd.C_alloc ?_ _)|(with_reducible refine Kd.C_drewN ?_ _)|(with_reducible refine Kd.C_drew ?_)));(case side2=>exact (Kd.N_reads' HO239.out).2.1);(case side3=>repeat (first|exact (Kd.R_reads' HO_8.out).2.2|(with_reducible refine Kd.C_alloc ?_ _)|(with_reducible refine Kd.C_drewN ?_ _)|(with_reducible refine Kd.C_drew ?_)));(case side4=>exact (Kd.R_reads' HO_8.out).2.1);(case side5=>repeat (first|exact (Kd.R_reads' HO242.out).2.2|(with_reducible refine Kd.C_alloc ?_ _)|(with_reducible refine Kd.C_drewN ?_ _)|(with_reducible refine Kd.C_drew ?_)));(case side6=>exact (Kd.R_reads' HO242.out).2.1);rintro e w28 ⟨v244,rfl,ho0,hb⟩;refine ⟨_,rfl,?_⟩;have n0_:=am (Kd.R_below d8 hb);have n1_:=am (Kd.R_below d9 hb);have n2_:=am (Kd.N_elder' d15 d22 hb);have n3_:=am (Kd.R_below d17 hb);have n4_:=am (Kd.N_lower (Kd.N_mono (ok':=fun k_=>some k_ ≠ (.slice Ao26 x8_1.length co26:Value).ownBlock∧some k_ ≠ (u9:Value).ownBlock∧some k_ ≠ (.slice Ao25 t237.length co25:Value).ownBlock∧some k_ ≠ (.slice Ao27 t240.length co27:Value).ownBlock) (Kd.S_N (Kd.S_bound ho0)) (fun k_ hk_=>⟨(Kd.fresh' (Kd.R_lt d8) k_ hk_.2.1),(Kd.fresh' (Kd.R_lt d9) k_ hk_.2.1),(Kd.fresh' (Kd.N_lt d15) k_ hk_.2.1),(Kd.fresh' (Kd.R_lt d17) k_ hk_.2.1)⟩)) (pz d0));have n5_:=am (pu d0 hb);clear HO_8;clear HO_9;clear HO239;clear HO242;clear HB;have HO_8:=n0_;have HO_9:=n1_;have HO239:=n2_;have HO242:=n3_;have HO245:=n4_;have HB:=n5_;clear n0_ n1_ n2_ n3_ n4_ n5_;(try clear hb);(try clear hb2);(try clear hk);(try clear hi);(try clear ho0);obtain ⟨Ao29,co29,eo29⟩:=Kd.N_slice HO245.out;subst eo29)|((with_reducible refine gate_callee (f:=91) rfl ?_);refine goesL_ (some 41) rfl rfl Try.func91 d3 rfl #[.agg #[.slice Ao29 t243.length co29]] rfl d4 ?_;(with_reducible refine (spec_l2Inverse.calls _ _ t243 t246 true _ ?side1 ?side2 A20.out).mono ?_);(case side1=>repeat (first|exact (Kd.N_reads' HO245.out).2.2|(with_reducible refine Kd.C_alloc ?_ _)|(with_reducible refine Kd.C_drewN ?_ _)|(with_reducible refine Kd.C_drew ?_)));(case side2=>exact (Kd.N_reads' HO245.out).2.1);rintro e w30 ⟨v247,rfl,ho0,hb⟩;refine ⟨_,rfl,?_⟩;have n0_:=am (Kd.R_below d8 hb);have n1_:=am (Kd.R_below d9 hb);have n2_:=am (Kd.N_elder' d15 d22 hb);have n3_:=am (Kd.R_below d17 hb);have n4_:=am (Kd.N_elder' d27 d22 hb);have n5_:=am (Kd.N_lower (Kd.N_mono (ok':=fun k_=>some k_ ≠ (.slice Ao26 x8_1.length co26:Value).ownBlock∧some k_ ≠ (u9:Value).ownBlock∧some k_ ≠ (.slice Ao25 t237.length co25:Value).ownBlock∧some k_ ≠ (.slice Ao27 t240.length co27:Value).ownBlock∧some k_ ≠ (.slice Ao29 t243.length co29:Value).ownBlock) ho0 (fun k_ hk_=>⟨(Kd.fresh' (Kd.R_lt d8) k_ hk_),(Kd.fresh' (Kd.R_lt d9) k_ hk_),(Kd.fresh' (Kd.N_lt d15) k_ hk_),(Kd.fresh' (Kd.R_lt d17) k_ hk_),(Kd.fresh' (Kd.N_lt d27) k_ hk_)⟩)) (pz d0));have n6_:=am (pu d0 hb);clear HO_8;clear HO_9;clear HO239;clear HO242;clear HO245;clear HB;have HO_8:=n0_;have HO_9:=n1_;have HO239:=n2_;have HO242:=n3_;have HO245:=n4_;have HO248:=n5_;have HB:=n6_;clear n0_ n1_ n2_ n3_ n4_ n5_ n6_;(try clear hb);(try clear hb2);(try clear hk);(try clear hi);(try clear ho0))|((with_reducible refine gate_dst (N:=12) rfl ?_);refine box_event ?hg (N:=12) ?hd (cs:=#[.slice none 0 0]) (t:=43) ?hr ?_;(case hd=>rfl);(case hg=>rfl);(case hr=>first|(go_simp;done)|(go_simp;rfl));intro gb250 hg w31 hbox hb;have n0_:=am (Kd.R_below d8 hb);have n1_:=am (Kd.R_below d9 hb);have n2_:=am (Kd.N_below (Kd.N_elderB d15 gb250 (Nat.le_of_eq hg.symm)) hb);have n3_:=am (Kd.R_below d17 hb);have n4_:=am (Kd.N_below (Kd.N_elderB d27 gb250 (Nat.le_of_eq hg.symm)) hb);have n5_:=am (Kd.N_below (Kd.N_elderB (by (with_reducible repeat (first|apply Kd.N_alloc|apply Kd.N_drewN|apply Kd.N_drew));exact HO248.out) gb250 (Nat.le_of_eq hg.symm)) hb);have n6_:=am (pu d0 hb);have n7_:=am (hbox);have n8_:=am ((by rw [hg];exact (pz d0):w.heap.size≤gb250));have n9_:=n8_;clear HO_8;clear HO_9;clear HO239;clear HO242;clear HO245;clear HO248;clear HB;have HO_8:=n0_;have HO_9:=n1_;have HO239:=n2_;have HO242:=n3_;have HO245:=n4_;have HO248:=n5_;have HB:=n6_;have BK250:=n7_;have GW250:=n8_;have GE250:=n9_;clear n0_ n1_ n2_ n3_ n4_ n5_ n6_ n7_ n8_ n9_;clear hb hbox hg;obtain ⟨Ao32,co32,eo32⟩:=Kd.N_slice HO248.out;subst eo32;have hcz33_0:w31.cell? ⟨gb250,0,none⟩=some (.slice none 0 0):=(blk_cell BK250.out 0).trans rfl;have hfz33_0:=blk_frozen BK250.out 0;obtain ⟨Ao34,co34,eo34⟩:=Kd.R_slice HO_9.out;subst eo34)|((with_reducible refine gate_callee (f:=89) rfl ?_);refine goesL_ (some 48) rfl rfl Try.func89 d3 rfl #[.agg #[.slice Ao32 t246.length co32], .slice Ao34 x9_1.length co34] rfl d4 ?_;(with_reducible refine (spec_l3Rows.calls k1 _ _ t246 _ _ x9_1 t251 _ ?side1 ?side2 ?side3 ?side4 A22.out).mono ?_);(case side1=>refine (Kd.N_reads' (e:=57) (base:=w.heap.size) (ok:=fun k_=>((some k_ ≠ (.slice Ao26 x8_1.length co26:Value).ownBlock∧(some k_ ≠ (.slice Ao34 x9_1.length co34:Value).ownBlock∧(some k_ ≠ (.slice Ao25 t237.length co25:Value).ownBlock∧(some k_ ≠ (.slice Ao27 t240.length co27:Value).ownBlock∧some k_ ≠ (.slice Ao29 t243.length co29:Value).ownBlock))))∧k_ ≠ gb250)) (n:=t246.length) (c:=co32) ?_).2.2;exact d39);(case side2=>exact (Kd.N_reads' HO248.out).2.1);(case side3=>refine (Kd.R_reads' (e:=9) (base:=w.heap.size) (ok:=fun k_=>True) (n:=x9_1.length) (c:=co34) ?_).2.2;exact d29);(case side4=>exact (Kd.R_reads' HO_9.out).2.1);rintro e w35 ⟨v252,rfl,ho0,hb⟩;refine ⟨_,rfl,?_⟩;have n0_:=am (Kd.R_below (by (with_reducible repeat (first|apply Kd.R_alloc|apply Kd.R_drewN|apply Kd.R_drew));exact (Kd.R_mono (Kd.R_far (p:=⟨gb250,0,none⟩) (Kd.R_types HO_8.out BK250.out d11) (fun _ hk=>hk.2) (.slice Ao32 t246.length co32)) (fun _ h_=>h_.1))) hb);have n1_:=am (Kd.R_elder' d29 (Kd.R_base ho0) hb);have n2_:=am (Kd.N_elder' (by (with_reducible repeat (first|apply Kd.N_alloc|apply Kd.N_drewN|apply Kd.N_drew));exact (Kd.N_mono (Kd.N_far (p:=⟨gb250,0,none⟩) (Kd.N_mono HO239.out (fun k_ hk=>(⟨hk,hk.2⟩:_∧k_ ≠ gb250))) (fun _ hk=>hk.2) (.slice Ao32 t246.length co32)) (fun _ h_=>h_.1))) (Kd.R_base ho0) hb);have n3_:=am (Kd.R_below (by (with_reducible repeat (first|apply Kd.R_alloc|apply Kd.R_drewN|apply Kd.R_drew));exact (Kd.R_mono (Kd.R_far (p:=⟨gb250,0,none⟩) (Kd.R_types HO242.out BK250.out d11) (fun _ hk=>hk.2) (.slice Ao32 t246.length co32)) (fun _ h_=>h_.1))) hb);have n4_:=am (Kd.N_elder' (by (with_reducible repeat (first|apply Kd.N_alloc|apply Kd.N_drewN|apply Kd.N_drew));exact (Kd.N_mono (Kd.N_far (p:=⟨gb250,0,none⟩) (Kd.N_mono HO245.out (fun k_ hk=>(⟨hk,hk.2⟩:_∧k_ ≠ gb250))) (fun _ hk=>hk.2) (.slice Ao32 t246.length co32)) (fun _ h_=>h_.1))) (Kd.R_base ho0) hb);have n5_:=am (Kd.N_elder' d39 (Kd.R_base ho0) hb);have n6_:=am (Kd.R_lower (Kd.R_new' ho0 (Kd.R_lt d29)) (pz (by repeat (first|(with_reducible first|exact HB.out|apply pa|apply pb|apply pd|refine pt ?_ GE250.out)|exact HB.out))));have n7_:=am (qb (g:=gb250) (o:=.cells #[.slice Ao32 t246.length co32] 43 (0,0)) (by (with_reducible repeat (first|refine qn ?_ _|refine qd ?_|refine qa ?_ _));refine blk_put (cs:=#[.slice none 0 0]) ?_ 0 _ rfl;(with_reducible repeat (first|refine qn ?_ _|refine qd ?_|refine qa ?_ _));exact BK250.out) hb);have n8_:=am (pu (by repeat (first|(with_reducible first|exact HB.out|apply pa|apply pb|apply pd|refine pt ?_ GE250.out)|exact HB.out)) hb);clear HO_8;clear HO_9;clear HO239;clear HO242;clear HO245;clear HO248;clear BK250;clear HB;have HO_8:=n0_;have HO_9:=n1_;have HO239:=n2_;have HO242:=n3_;have HO245:=n4_;have HO248:=n5_;have HO253:=n6_;have BK250:=n7_;have HB:=n8_;clear n0_ n1_ n2_ n3_ n4_ n5_ n6_ n7_ n8_;(try clear hb);(try clear hb2);(try clear hk);(try clear hi);(try clear ho0)))
      go_ret2
      exact ⟨_,d5,by (with_reducible repeat (first|apply Kd.R_alloc|apply Kd.R_drewN|apply Kd.R_drew));exact Kd.R_mono HO253.out (fun _ hk=>trivial),by repeat (first|(with_reducible first|exact HB.out|apply pa|apply pb|apply pd|refine pt ?_ GE250.out)|exact HB.out)⟩
     replace c21:=Bool.eq_false_iff.mpr c21
     subst c21
     have H1:(some (([]:List ByteArray),false))=some (r1,r2):=by rw [if_neg (show ¬ (false=true) by decide)] at H;exact H
     clear H
     have H:=H1
     clear H1
     simp only [Option.some.injEq,Prod.mk.injEq] at H
     obtain ⟨rfl,rfl⟩:=H
     go_wp2_with (first|((with_reducible refine gate_callee (f:=135) rfl ?_);refine goesL_ (some 36) rfl rfl Try.func135 d3 rfl #[.int .i64 a1, .int .i64 a2] rfl d4 ?_;(with_reducible refine (spec_l3Matrix.calls k1 a1 a2 t237 _ A17.out).mono ?_);rintro e w36 ⟨v238,rfl,ho0,hb⟩;refine ⟨_,rfl,?_⟩;have n0_:=am (Kd.R_below d8 hb);have n1_:=am (Kd.R_below d9 hb);have n2_:=am (Kd.N_lower (Kd.N_mono (ok':=fun k_=>some k_ ≠ (u8:Value).ownBlock∧some k_ ≠ (u9:Value).ownBlock) ho0 (fun k_ hk_=>⟨(Kd.fresh' (Kd.R_lt d8) k_ hk_),(Kd.fresh' (Kd.R_lt d9) k_ hk_)⟩)) (pz d0));have n3_:=am (pu d0 hb);clear HO_8;clear HO_9;clear HB;have HO_8:=n0_;have HO_9:=n1_;have HO239:=n2_;have HB:=n3_;clear n0_ n1_ n2_ n3_;(try clear hb);(try clear hb2);(try clear hk);(try clear hi);(try clear ho0))|((with_reducible refine gate_callee (f:=93) rfl ?_);refine goesL_ (some 39) rfl rfl Try.func93 d3 rfl #[.int .i64 a1] rfl d4 ?_;(with_reducible refine (spec_l3All.calls k1 a1 t240 _ A18.out).mono ?_);rintro e w37 ⟨v241,rfl,ho0,hb⟩;refine ⟨_,rfl,?_⟩;have n0_:=am (Kd.R_elder' d8 (Kd.R_base ho0) hb);have n1_:=am (Kd.R_below d9 hb);have n2_:=am (Kd.N_elder' d15 (Kd.R_base ho0) hb);have n3_:=am (Kd.R_lower (Kd.R_new' ho0 (Kd.R_lt d8)) (pz d0));have n4_:=am (pu d0 hb);clear HO_8;clear HO_9;clear HO239;clear HB;have HO_8:=n0_;have HO_9:=n1_;have HO239:=n2_;have HO242:=n3_;have HB:=n4_;clear n0_ n1_ n2_ n3_ n4_;(try clear hb);(try clear hb2);(try clear hk);(try clear hi);(try clear ho0);obtain ⟨Ao38,co38,eo38⟩:=Kd.N_slice HO239.out;subst eo38;obtain ⟨Ao39,co39,eo39⟩:=Kd.R_slice HO_8.out;subst eo39;obtain ⟨Ao40,co40,eo40⟩:=Kd.R_slice HO242.out;subst eo40)|((with_reducible refine gate_callee (f:=92) rfl ?_);refine goesL_ (some 40) rfl rfl Try.func92 d3 rfl #[.agg #[.slice Ao38 t237.length co38], .slice Ao39 x8_1.length co39, .slice Ao40 t240.length co40] rfl d4 ?_;(with_reducible refine (spec_l2Part.calls k1 _ _ t237 _ _ x8_1 _ _ t240 t243 _ ?side1 ?side2 ?side3 ?side4 ?side5 ?side6 A19.out).mono ?_);(case side1=>repeat (first|exact (Kd.N_reads' HO239.out).2.2|(with_reducible refine Kd.C_alloc ?_ _)|(with_reducible refine Kd.C_drewN ?_ _)|(with_reducible refine Kd.C_drew ?_)));(case side2=>exact (Kd.N_reads' HO239.out).2.1);(case side3=>repeat (first|exact (Kd.R_reads' HO_8.out).2.2|(with_reducible refine Kd.C_alloc ?_ _)|(with_reducible refine Kd.C_drewN ?_ _)|(with_reducible refine Kd.C_drew ?_)));(case side4=>exact (Kd.R_reads' HO_8.out).2.1);(case side5=>repeat (first|exact (Kd.R_reads' HO242.out).2.2|(with_reducible refine Kd.C_alloc ?_ _)|(with_reducible refine Kd.C_drewN ?_ _)|(with_reducible refine Kd.C_drew ?_)));(case side6=>exact (Kd.R_reads' HO242.out).2.1);rintro e w41 ⟨v244,rfl,ho0,hb⟩;refine ⟨_,rfl,?_⟩;have n0_:=am (Kd.R_below d8 hb);have n1_:=am (Kd.R_below d9 hb);have n2_:=am (Kd.N_elder' d15 d22 hb);have n3_:=am (Kd.R_below d17 hb);have n4_:=am (Kd.N_lower (Kd.N_mono (ok':=fun k_=>some k_ ≠ (.slice Ao39 x8_1.length co39:Value).ownBlock∧some k_ ≠ (u9:Value).ownBlock∧some k_ ≠ (.slice Ao38 t237.length co38:Value).ownBlock∧some k_ ≠ (.slice Ao40 t240.length co40:Value).ownBlock) (Kd.S_N (Kd.S_bound ho0)) (fun k_ hk_=>⟨(Kd.fresh' (Kd.R_lt d8) k_ hk_.2.1),(Kd.fresh' (Kd.R_lt d9) k_ hk_.2.1),(Kd.fresh' (Kd.N_lt d15) k_ hk_.2.1),(Kd.fresh' (Kd.R_lt d17) k_ hk_.2.1)⟩)) (pz d0));have n5_:=am (pu d0 hb);clear HO_8;clear HO_9;clear HO239;clear HO242;clear HB;have HO_8:=n0_;have HO_9:=n1_;have HO239:=n2_;have HO242:=n3_;have HO245:=n4_;have HB:=n5_;clear n0_ n1_ n2_ n3_ n4_ n5_;(try clear hb);(try clear hb2);(try clear hk);(try clear hi);(try clear ho0);obtain ⟨Ao42,co42,eo42⟩:=Kd.N_slice HO245.out;subst eo42)|((with_reducible refine gate_callee (f:=91) rfl ?_);refine goesL_ (some 41) rfl rfl Try.func91 d3 rfl #[.agg #[.slice Ao42 t243.length co42]] rfl d4 ?_;(with_reducible refine (spec_l2Inverse.calls _ _ t243 t246 false _ ?side1 ?side2 A20.out).mono ?_);(case side1=>repeat (first|exact (Kd.N_reads' HO245.out).2.2|(with_reducible refine Kd.C_alloc ?_ _)|(with_reducible refine Kd.C_drewN ?_ _)|(with_reducible refine Kd.C_drew ?_)));(case side2=>exact (Kd.N_reads' HO245.out).2.1);rintro e w43 ⟨v247,rfl,ho0,hb⟩;refine ⟨_,rfl,?_⟩;have n0_:=am (Kd.R_below d8 hb);have n1_:=am (Kd.R_below d9 hb);have n2_:=am (Kd.N_elder' d15 d22 hb);have n3_:=am (Kd.R_below d17 hb);have n4_:=am (Kd.N_elder' d27 d22 hb);have n5_:=am (Kd.N_lower (Kd.N_mono (ok':=fun k_=>some k_ ≠ (.slice Ao39 x8_1.length co39:Value).ownBlock∧some k_ ≠ (u9:Value).ownBlock∧some k_ ≠ (.slice Ao38 t237.length co38:Value).ownBlock∧some k_ ≠ (.slice Ao40 t240.length co40:Value).ownBlock∧some k_ ≠ (.slice Ao42 t243.length co42:Value).ownBlock) ho0 (fun k_ hk_=>⟨(Kd.fresh' (Kd.R_lt d8) k_ hk_),(Kd.fresh' (Kd.R_lt d9) k_ hk_),(Kd.fresh' (Kd.N_lt d15) k_ hk_),(Kd.fresh' (Kd.R_lt d17) k_ hk_),(Kd.fresh' (Kd.N_lt d27) k_ hk_)⟩)) (pz d0));have n6_:=am (pu d0 hb);clear HO_8;clear HO_9;clear HO239;clear HO242;clear HO245;clear HB;have HO_8:=n0_;have HO_9:=n1_;have HO239:=n2_;have HO242:=n3_;have HO245:=n4_;have HO248:=n5_;have HB:=n6_;clear n0_ n1_ n2_ n3_ n4_ n5_ n6_;(try clear hb);(try clear hb2);(try clear hk);(try clear hi);(try clear ho0))|((with_reducible refine gate_dst (N:=12) rfl ?_);refine box_event ?hg (N:=12) ?hd (cs:=#[.slice none 0 0]) (t:=43) ?hr ?_;(case hd=>rfl);(case hg=>rfl);(case hr=>first|(go_simp;done)|(go_simp;rfl));intro gb250 hg w44 hbox hb;have n0_:=am (Kd.R_below d8 hb);have n1_:=am (Kd.R_below d9 hb);have n2_:=am (Kd.N_below (Kd.N_elderB d15 gb250 (Nat.le_of_eq hg.symm)) hb);have n3_:=am (Kd.R_below d17 hb);have n4_:=am (Kd.N_below (Kd.N_elderB d27 gb250 (Nat.le_of_eq hg.symm)) hb);have n5_:=am (Kd.N_below (Kd.N_elderB (by (with_reducible repeat (first|apply Kd.N_alloc|apply Kd.N_drewN|apply Kd.N_drew));exact HO248.out) gb250 (Nat.le_of_eq hg.symm)) hb);have n6_:=am (pu d0 hb);have n7_:=am (hbox);have n8_:=am ((by rw [hg];exact (pz d0):w.heap.size≤gb250));have n9_:=n8_;clear HO_8;clear HO_9;clear HO239;clear HO242;clear HO245;clear HO248;clear HB;have HO_8:=n0_;have HO_9:=n1_;have HO239:=n2_;have HO242:=n3_;have HO245:=n4_;have HO248:=n5_;have HB:=n6_;have BK250:=n7_;have GW250:=n8_;have GE250:=n9_;clear n0_ n1_ n2_ n3_ n4_ n5_ n6_ n7_ n8_ n9_;clear hb hbox hg;obtain ⟨Ao45,co45,eo45⟩:=Kd.N_slice HO248.out;subst eo45;have hcz46_0:w44.cell? ⟨gb250,0,none⟩=some (.slice none 0 0):=(blk_cell BK250.out 0).trans rfl;have hfz46_0:=blk_frozen BK250.out 0))
     go_ret2
     exact ⟨_,d5,d12,by repeat (first|(with_reducible first|exact HB.out|apply pa|apply pb|apply pd|refine pt ?_ GE250.out)|exact HB.out)⟩
  rw [if_neg c5] at H
  exact absurd H d20
 rw [if_neg c4] at H
 exact absurd H d20

def spec_DecodeShards.f (k:Nat) (l0:List (S84)) (a1:Int) (a2:Int):Option (List ByteArray × Bool):=(spec_GoodShape.f a1 a2).bind fun t254=>(if t254=true then ((spec_l3Shards.f k l0 (wrap64 (a1+a2))).bind fun t255=>(if t255=true then (if (l0.length:Int) < a1 then (some (([]:List ByteArray),false)) else ((spec_l3Decode.f k l0 a1 a2).bind fun bt256=>(some (bt256.1,bt256.2)))) else (some (([]:List ByteArray),false)))) else (some (([]:List ByteArray),false)))
theorem spec_DecodeShards.mono:∀ a0 a1 a2 k,LeO (spec_DecodeShards.f k a0 a1 a2) (spec_DecodeShards.f (k+1) a0 a1 a2):=by
 intro a0 a1 a2 k
 unfold spec_DecodeShards.f
 repeat' first
   | (with_reducible exact spec_l3Decode.mono _ _ _ _)
   | (with_reducible exact spec_l3Shards.mono _ _ _)
   |(with_reducible exact LeO.refl _)|(with_reducible exact LeO.none _)|(with_reducible refine LeO.ite ?_ ?_)|(with_reducible refine LeO.bind ?_ (fun _=>?_))|exact spec_l3Decode.mono _ _ _ _|exact spec_l3Shards.mono _ _ _|exact LeO.none _|refine LeO.ite ?_ ?_|refine LeO.bind ?_ (fun _=>?_)
theorem spec_DecodeShards.calls (k:Nat) (A0:Option Addr) (c0:Nat) (l0:List (S84)) (a1:Int) (a2:Int) (r1:List ByteArray) (r2:Bool) (w:World) (hr0:Kd.C k84 w A0 l0.length l0) (hc0:l0.length≤c0) (h:spec_DecodeShards.f k l0 a1 a2=some (r1,r2)) :
  Calls Try.prog 61 #[.slice A0 l0.length c0, .int .i64 a1, .int .i64 a2] w fun e w'=>∃ v0_:Value,e = .returned (.tuple #[v0_, .bool r2])∧Kd.R Kd.string 9 w' w.heap.size (fun _=>True) v0_ r1∧Below w.heap.size w w':=by
 have HR0:=am hr0
 have HC0:=am hc0
 clear hr0 hc0
 have HB:=am (Below.refl w.heap.size w)
 have H:((spec_GoodShape.f a1 a2).bind fun t254=>(if t254=true then ((spec_l3Shards.f k l0 (wrap64 (a1+a2))).bind fun t255=>(if t255=true then (if (l0.length:Int) < a1 then (some (([]:List ByteArray),false)) else ((spec_l3Decode.f k l0 a1 a2).bind fun bt256=>(some (bt256.1,bt256.2)))) else (some (([]:List ByteArray),false)))) else (some (([]:List ByteArray),false))))=some (r1,r2):=h
 clear h
 replace H:=Option.bind_eq_some_iff.mp H
 obtain ⟨t254,A40,H⟩:=H
 replace H:(if t254=true then ((spec_l3Shards.f k l0 (wrap64 (a1+a2))).bind fun t255=>(if t255=true then (if (l0.length:Int) < a1 then (some (([]:List ByteArray),false)) else ((spec_l3Decode.f k l0 a1 a2).bind fun bt256=>(some (bt256.1,bt256.2)))) else (some (([]:List ByteArray),false)))) else (some (([]:List ByteArray),false)))=some (r1,r2):=H
 have A4:=am A40
 clear A40
 by_cases c5:t254=true
 ·subst c5
  have H1:((spec_l3Shards.f k l0 (wrap64 (a1+a2))).bind fun t255=>(if t255=true then (if (l0.length:Int) < a1 then (some (([]:List ByteArray),false)) else ((spec_l3Decode.f k l0 a1 a2).bind fun bt256=>(some (bt256.1,bt256.2)))) else (some (([]:List ByteArray),false))))=some (r1,r2):=by rw [if_pos rfl] at H;exact H
  clear H
  have H:=H1
  clear H1
  replace H:=Option.bind_eq_some_iff.mp H
  obtain ⟨t255,A60,H⟩:=H
  replace H:(if t255=true then (if (l0.length:Int) < a1 then (some (([]:List ByteArray),false)) else ((spec_l3Decode.f k l0 a1 a2).bind fun bt256=>(some (bt256.1,bt256.2)))) else (some (([]:List ByteArray),false)))=some (r1,r2):=H
  have A6:=am A60
  clear A60
  by_cases c7:t255=true
  ·subst c7
   have H1:(if (l0.length:Int) < a1 then (some (([]:List ByteArray),false)) else ((spec_l3Decode.f k l0 a1 a2).bind fun bt256=>(some (bt256.1,bt256.2))))=some (r1,r2):=by rw [if_pos rfl] at H;exact H
   clear H
   have H:=H1
   clear H1
   by_cases c8:(l0.length:Int) < a1
   ·rw [if_pos c8] at H
    have c8b0:decide ((l0.length:Int) < a1)=true:=decide_eq_true c8
    clear c8
    simp only [Option.some.injEq,Prod.mk.injEq] at H
    obtain ⟨rfl,rfl⟩:=H
    go_enter Try.func61,Try.ntmps61
    go_wp2_with (first|((with_reducible refine gate_callee (f:=141) rfl ?_);refine goesL_ (some 10) rfl rfl Try.func141 d3 rfl #[.int .i64 a1, .int .i64 a2] rfl d4 ?_;(with_reducible refine (spec_GoodShape.calls a1 a2 true _ A4.out).mono ?_);rintro e w' ⟨rfl,⟨nd,rfl⟩⟩;refine ⟨_,rfl,?_⟩)|(go_at_call 142;(with_reducible refine (spec_l3Shards.calls k _ _ l0 (wrap64 (a1+a2)) true _ ?side1 ?side2 A6.out).mono ?_);(case side1=>repeat (first|exact HR0.out|(with_reducible refine Kd.C_alloc ?_ _)|(with_reducible refine Kd.C_drewN ?_ _)|(with_reducible refine Kd.C_drew ?_)));(case side2=>exact HC0.out);rintro e w9 ⟨rfl,hb⟩;have n0_:=am (pu d0 hb);clear HB;have HB:=n0_;clear n0_;(try clear hb);(try clear hb2);(try clear hk);(try clear hi)))
    go_ret2
    exact ⟨_,d5,d12,d0⟩
   rw [if_neg c8] at H
   have c8b0:decide ((l0.length:Int) < a1)=false:=decide_eq_false c8
   clear c8
   replace H:=Option.bind_eq_some_iff.mp H
   obtain ⟨⟨t256,t257⟩,A100,H⟩:=H
   replace H:(some (t256,t257))=some (r1,r2):=H
   have A10:=am A100
   clear A100
   simp only [Option.some.injEq,Prod.mk.injEq] at H
   obtain ⟨rfl,rfl⟩:=H
   go_enter Try.func61,Try.ntmps61
   go_wp2_with (first|((with_reducible refine gate_callee (f:=141) rfl ?_);refine goesL_ (some 10) rfl rfl Try.func141 d3 rfl #[.int .i64 a1, .int .i64 a2] rfl d4 ?_;(with_reducible refine (spec_GoodShape.calls a1 a2 true _ A4.out).mono ?_);rintro e w' ⟨rfl,⟨nd,rfl⟩⟩;refine ⟨_,rfl,?_⟩)|(go_at_call 142;(with_reducible refine (spec_l3Shards.calls k _ _ l0 (wrap64 (a1+a2)) true _ ?side1 ?side2 A6.out).mono ?_);(case side1=>repeat (first|exact HR0.out|(with_reducible refine Kd.C_alloc ?_ _)|(with_reducible refine Kd.C_drewN ?_ _)|(with_reducible refine Kd.C_drew ?_)));(case side2=>exact HC0.out);rintro e w11 ⟨rfl,hb⟩;have n0_:=am (pu d0 hb);clear HB;have HB:=n0_;clear n0_;(try clear hb);(try clear hb2);(try clear hk);(try clear hi))|((with_reducible refine gate_callee (f:=143) rfl ?_);refine goesL_ (some 29) rfl rfl Try.func143 d3 rfl #[.slice A0 l0.length c0, .int .i64 a1, .int .i64 a2] rfl d4 ?_;(with_reducible refine (spec_l3Decode.calls k _ _ l0 a1 a2 t256 t257 _ ?side1 ?side2 A10.out).mono ?_);(case side1=>repeat (first|exact (Kd.C_below HR0.out HB.out)|(with_reducible refine Kd.C_alloc ?_ _)|(with_reducible refine Kd.C_drewN ?_ _)|(with_reducible refine Kd.C_drew ?_)));(case side2=>exact HC0.out);rintro e w12 ⟨v258,rfl,ho0,hb⟩;refine ⟨_,rfl,?_⟩;have n0_:=am (Kd.R_lower ho0 (pz d0));have n1_:=am (pu d0 hb);clear HB;have HO259:=n0_;have HB:=n1_;clear n0_ n1_;(try clear hb);(try clear hb2);(try clear hk);(try clear hi);(try clear ho0)))
   go_ret2
   exact ⟨_,d5,by (with_reducible repeat (first|apply Kd.R_alloc|apply Kd.R_drewN|apply Kd.R_drew));exact HO259.out,d0⟩
  replace c7:=Bool.eq_false_iff.mpr c7
  subst c7
  have H1:(some (([]:List ByteArray),false))=some (r1,r2):=by rw [if_neg (show ¬ (false=true) by decide)] at H;exact H
  clear H
  have H:=H1
  clear H1
  simp only [Option.some.injEq,Prod.mk.injEq] at H
  obtain ⟨rfl,rfl⟩:=H
  go_enter Try.func61,Try.ntmps61
  go_wp2_with (first|((with_reducible refine gate_callee (f:=141) rfl ?_);refine goesL_ (some 10) rfl rfl Try.func141 d3 rfl #[.int .i64 a1, .int .i64 a2] rfl d4 ?_;(with_reducible refine (spec_GoodShape.calls a1 a2 true _ A4.out).mono ?_);rintro e w' ⟨rfl,⟨nd,rfl⟩⟩;refine ⟨_,rfl,?_⟩)|(go_at_call 142;(with_reducible refine (spec_l3Shards.calls k _ _ l0 (wrap64 (a1+a2)) false _ ?side1 ?side2 A6.out).mono ?_);(case side1=>repeat (first|exact HR0.out|(with_reducible refine Kd.C_alloc ?_ _)|(with_reducible refine Kd.C_drewN ?_ _)|(with_reducible refine Kd.C_drew ?_)));(case side2=>exact HC0.out);rintro e w13 ⟨rfl,hb⟩;have n0_:=am (pu d0 hb);clear HB;have HB:=n0_;clear n0_;(try clear hb);(try clear hb2);(try clear hk);(try clear hi)))
  go_ret2
  exact ⟨_,d5,d12,d0⟩
 replace c5:=Bool.eq_false_iff.mpr c5
 subst c5
 have H1:(some (([]:List ByteArray),false))=some (r1,r2):=by rw [if_neg (show ¬ (false=true) by decide)] at H;exact H
 clear H
 have H:=H1
 clear H1
 simp only [Option.some.injEq,Prod.mk.injEq] at H
 obtain ⟨rfl,rfl⟩:=H
 go_enter Try.func61,Try.ntmps61
 go_wp2_with (first|((with_reducible refine gate_callee (f:=141) rfl ?_);refine goesL_ (some 10) rfl rfl Try.func141 d3 rfl #[.int .i64 a1, .int .i64 a2] rfl d4 ?_;(with_reducible refine (spec_GoodShape.calls a1 a2 false _ A4.out).mono ?_);rintro e w' ⟨rfl,⟨nd,rfl⟩⟩;refine ⟨_,rfl,?_⟩))
 go_ret2
 exact ⟨_,d5,d12,d0⟩

def spec_CheckShards.l0:Nat→List ByteArray→List (S84)→Int→Int→Option (Bool × Bool)
 | 0,_,_,_,_=>none
 | k+1,x10,x27,x28,x29=>if x29 < x28 then (if 0≤x29 then (if x29 < (x27.length:Int) then (if 0≤((rd_T84 x27 x29).f0) then (if ((rd_T84 x27 x29).f0) < (x10.length:Int) then (if (rdOf ByteArray.empty x10 ((rd_T84 x27 x29).f0)).toList=((rd_T84 x27 x29).f1).toList then (spec_CheckShards.l0 k x10 x27 x28 (wrap64 (x29+1))) else (some (false,true))) else (none)) else (none)) else (none)) else (none)) else (some (true,true))
def spec_CheckShards.f (k:Nat) (l0:List (S84)) (a1:Int) (a2:Int):Option (Bool × Bool):=(spec_DecodeShards.f k l0 a1 a2).bind fun bt260=>(if bt260.2=true then ((spec_l3Matrix.f k a1 a2).bind fun t264=>((spec_l3Rows.f k t264 bt260.1).bind fun t267=>(spec_CheckShards.l0 k t267 l0 (l0.length:Int) 0))) else (some (false,false)))
theorem spec_CheckShards.mono_l:∀ k,(∀ y0 y1 y2 y3,LeO (spec_CheckShards.l0 k y0 y1 y2 y3) (spec_CheckShards.l0 (k+1) y0 y1 y2 y3))
 | 0=>fun _ _ _ _ r h=>by simp [spec_CheckShards.l0] at h
 | k+1=>by
  have ih0:=spec_CheckShards.mono_l k
  intro y0 y1 y2 y3
  unfold spec_CheckShards.l0
  repeat' first
  | (with_reducible exact ih0 _ _ _ _)
  | (with_reducible exact spec_DecodeShards.mono _ _ _ _)
  | (with_reducible exact spec_l3Matrix.mono _ _ _)
  | (with_reducible exact spec_l3Rows.mono _ _ _)
  |(with_reducible exact LeO.refl _)|(with_reducible exact LeO.none _)|(with_reducible refine LeO.ite ?_ ?_)|(with_reducible refine LeO.bind ?_ (fun _=>?_))|exact ih0 _ _ _ _|exact spec_DecodeShards.mono _ _ _ _|exact spec_l3Matrix.mono _ _ _|exact spec_l3Rows.mono _ _ _|exact LeO.none _|refine LeO.ite ?_ ?_|refine LeO.bind ?_ (fun _=>?_)
theorem spec_CheckShards.mono:∀ a0 a1 a2 k,LeO (spec_CheckShards.f k a0 a1 a2) (spec_CheckShards.f (k+1) a0 a1 a2):=by
 intro a0 a1 a2 k
 have ih0:=spec_CheckShards.mono_l k
 unfold spec_CheckShards.f
 repeat' first
   | (with_reducible exact ih0 _ _ _ _)
   | (with_reducible exact spec_DecodeShards.mono _ _ _ _)
   | (with_reducible exact spec_l3Matrix.mono _ _ _)
   | (with_reducible exact spec_l3Rows.mono _ _ _)
   |(with_reducible exact LeO.refl _)|(with_reducible exact LeO.none _)|(with_reducible refine LeO.ite ?_ ?_)|(with_reducible refine LeO.bind ?_ (fun _=>?_))|exact ih0 _ _ _ _|exact spec_DecodeShards.mono _ _ _ _|exact spec_l3Matrix.mono _ _ _|exact spec_l3Rows.mono _ _ _|exact LeO.none _|refine LeO.ite ?_ ?_|refine LeO.bind ?_ (fun _=>?_)
theorem spec_CheckShards.calls (k:Nat) (A0:Option Addr) (c0:Nat) (l0:List (S84)) (a1:Int) (a2:Int) (r1:Bool) (r2:Bool) (w:World) (hr0:Kd.C k84 w A0 l0.length l0) (hc0:l0.length≤c0) (h:spec_CheckShards.f k l0 a1 a2=some (r1,r2)) :
  Calls Try.prog 59 #[.slice A0 l0.length c0, .int .i64 a1, .int .i64 a2] w fun e w'=>e = .returned (.tuple #[.bool r1, .bool r2])∧Below w.heap.size w w':=by
 have hu84:=Try.underlying84
 have HR0:=am hr0
 have HC0:=am hc0
 clear hr0 hc0
 have HB:=am (Below.refl w.heap.size w)
 have H:((spec_DecodeShards.f k l0 a1 a2).bind fun bt260=>(if bt260.2=true then ((spec_l3Matrix.f k a1 a2).bind fun t264=>((spec_l3Rows.f k t264 bt260.1).bind fun t267=>(spec_CheckShards.l0 k t267 l0 (l0.length:Int) 0))) else (some (false,false))))=some (r1,r2):=h
 clear h
 replace H:=Option.bind_eq_some_iff.mp H
 obtain ⟨⟨t260,t261⟩,A40,H⟩:=H
 replace H:(if t261=true then ((spec_l3Matrix.f k a1 a2).bind fun t264=>((spec_l3Rows.f k t264 t260).bind fun t267=>(spec_CheckShards.l0 k t267 l0 (l0.length:Int) 0))) else (some (false,false)))=some (r1,r2):=H
 have A4:=am A40
 clear A40
 by_cases c5:t261=true
 ·subst c5
  have H1:((spec_l3Matrix.f k a1 a2).bind fun t264=>((spec_l3Rows.f k t264 t260).bind fun t267=>(spec_CheckShards.l0 k t267 l0 (l0.length:Int) 0)))=some (r1,r2):=by rw [if_pos rfl] at H;exact H
  clear H
  have H:=H1
  clear H1
  replace H:=Option.bind_eq_some_iff.mp H
  obtain ⟨t264,A60,H⟩:=H
  replace H:((spec_l3Rows.f k t264 t260).bind fun t267=>(spec_CheckShards.l0 k t267 l0 (l0.length:Int) 0))=some (r1,r2):=H
  have A6:=am A60
  clear A60
  replace H:=Option.bind_eq_some_iff.mp H
  obtain ⟨t267,A70,H⟩:=H
  replace H:(spec_CheckShards.l0 k t267 l0 (l0.length:Int) 0)=some (r1,r2):=H
  have A7:=am A70
  clear A70
  have H':=am H
  clear H
  go_enter Try.func59,Try.ntmps59
  go_wp2_with (first|(go_at_call 61;(with_reducible refine (spec_DecodeShards.calls k _ _ l0 a1 a2 t260 true _ ?side1 ?side2 A4.out).mono ?_);(case side1=>repeat (first|exact HR0.out|(with_reducible refine Kd.C_alloc ?_ _)|(with_reducible refine Kd.C_drewN ?_ _)|(with_reducible refine Kd.C_drew ?_)));(case side2=>exact HC0.out);rintro e w8 ⟨v262,rfl,ho0,hb⟩;have n0_:=am (Kd.R_lower ho0 (pz d0));have n1_:=am (pu d0 hb);clear HB;have HO263:=n0_;have HB:=n1_;clear n0_ n1_;(try clear hb);(try clear hb2);(try clear hk);(try clear hi);(try clear ho0))|(go_at_call 135;(with_reducible refine (spec_l3Matrix.calls k a1 a2 t264 _ A6.out).mono ?_);rintro e w9 ⟨v265,rfl,ho0,hb⟩;have n0_:=am (Kd.R_below d14 hb);have n1_:=am (Kd.N_lower (Kd.N_mono (ok':=fun k_=>some k_ ≠ (v262:Value).ownBlock) ho0 (fun k_ hk_=>(Kd.fresh' (Kd.R_lt d14) k_ hk_))) (pz d0));have n2_:=am (pu d0 hb);clear HO263;clear HB;have HO263:=n0_;have HO266:=n1_;have HB:=n2_;clear n0_ n1_ n2_;(try clear hb);(try clear hb2);(try clear hk);(try clear hi);(try clear ho0);obtain ⟨Ao10,co10,eo10⟩:=Kd.N_slice HO266.out;subst eo10;obtain ⟨Ao11,co11,eo11⟩:=Kd.R_slice HO263.out;subst eo11)|(go_at_call 89;(with_reducible refine (spec_l3Rows.calls k _ _ t264 _ _ t260 t267 _ ?side1 ?side2 ?side3 ?side4 A7.out).mono ?_);(case side1=>repeat (first|exact (Kd.N_reads' HO266.out).2.2|(with_reducible refine Kd.C_alloc ?_ _)|(with_reducible refine Kd.C_drewN ?_ _)|(with_reducible refine Kd.C_drew ?_)));(case side2=>exact (Kd.N_reads' HO266.out).2.1);(case side3=>repeat (first|exact (Kd.R_reads' HO263.out).2.2|(with_reducible refine Kd.C_alloc ?_ _)|(with_reducible refine Kd.C_drewN ?_ _)|(with_reducible refine Kd.C_drew ?_)));(case side4=>exact (Kd.R_reads' HO263.out).2.1);rintro e w12 ⟨v268,rfl,ho0,hb⟩;have n0_:=am (Kd.R_elder' d14 (Kd.R_base ho0) hb);have n1_:=am (Kd.N_elder' d42 (Kd.R_base ho0) hb);have n2_:=am (Kd.R_lower (Kd.R_new' ho0 (Kd.R_lt d14)) (pz d0));have n3_:=am (pu d0 hb);clear HO263;clear HO266;clear HB;have HO263:=n0_;have HO266:=n1_;have HO269:=n2_;have HB:=n3_;clear n0_ n1_ n2_ n3_;(try clear hb);(try clear hb2);(try clear hk);(try clear hi);(try clear ho0)))
  repeat (go_quiet (first|(go_at_call 61;(with_reducible refine (spec_DecodeShards.calls k _ _ l0 a1 a2 t260 true _ ?side1 ?side2 A4.out).mono ?_);(case side1=>repeat (first|exact HR0.out|(with_reducible refine Kd.C_alloc ?_ _)|(with_reducible refine Kd.C_drewN ?_ _)|(with_reducible refine Kd.C_drew ?_)));(case side2=>exact HC0.out);rintro e w8 ⟨v262,rfl,ho0,hb⟩;have n0_:=am (Kd.R_lower ho0 (pz d0));have n1_:=am (pu d0 hb);clear HB;have HO263:=n0_;have HB:=n1_;clear n0_ n1_;(try clear hb);(try clear hb2);(try clear hk);(try clear hi);(try clear ho0))|(go_at_call 135;(with_reducible refine (spec_l3Matrix.calls k a1 a2 t264 _ A6.out).mono ?_);rintro e w9 ⟨v265,rfl,ho0,hb⟩;have n0_:=am (Kd.R_below d14 hb);have n1_:=am (Kd.N_lower (Kd.N_mono (ok':=fun k_=>some k_ ≠ (v262:Value).ownBlock) ho0 (fun k_ hk_=>(Kd.fresh' (Kd.R_lt d14) k_ hk_))) (pz d0));have n2_:=am (pu d0 hb);clear HO263;clear HB;have HO263:=n0_;have HO266:=n1_;have HB:=n2_;clear n0_ n1_ n2_;(try clear hb);(try clear hb2);(try clear hk);(try clear hi);(try clear ho0);obtain ⟨Ao10,co10,eo10⟩:=Kd.N_slice HO266.out;subst eo10;obtain ⟨Ao11,co11,eo11⟩:=Kd.R_slice HO263.out;subst eo11)|(go_at_call 89;(with_reducible refine (spec_l3Rows.calls k _ _ t264 _ _ t260 t267 _ ?side1 ?side2 ?side3 ?side4 A7.out).mono ?_);(case side1=>repeat (first|exact (Kd.N_reads' HO266.out).2.2|(with_reducible refine Kd.C_alloc ?_ _)|(with_reducible refine Kd.C_drewN ?_ _)|(with_reducible refine Kd.C_drew ?_)));(case side2=>exact (Kd.N_reads' HO266.out).2.1);(case side3=>repeat (first|exact (Kd.R_reads' HO263.out).2.2|(with_reducible refine Kd.C_alloc ?_ _)|(with_reducible refine Kd.C_drewN ?_ _)|(with_reducible refine Kd.C_drew ?_)));(case side4=>exact (Kd.R_reads' HO263.out).2.1);rintro e w12 ⟨v268,rfl,ho0,hb⟩;have n0_:=am (Kd.R_elder' d14 (Kd.R_base ho0) hb);have n1_:=am (Kd.N_elder' d42 (Kd.R_base ho0) hb);have n2_:=am (Kd.R_lower (Kd.R_new' ho0 (Kd.R_lt d14)) (pz d0));have n3_:=am (pu d0 hb);clear HO263;clear HO266;clear HB;have HO263:=n0_;have HO266:=n1_;have HO269:=n2_;have HB:=n3_;clear n0_ n1_ n2_ n3_;(try clear hb);(try clear hb2);(try clear hk);(try clear hi);(try clear ho0)));try go_wp2_with (first|(go_at_call 61;(with_reducible refine (spec_DecodeShards.calls k _ _ l0 a1 a2 t260 true _ ?side1 ?side2 A4.out).mono ?_);(case side1=>repeat (first|exact HR0.out|(with_reducible refine Kd.C_alloc ?_ _)|(with_reducible refine Kd.C_drewN ?_ _)|(with_reducible refine Kd.C_drew ?_)));(case side2=>exact HC0.out);rintro e w8 ⟨v262,rfl,ho0,hb⟩;have n0_:=am (Kd.R_lower ho0 (pz d0));have n1_:=am (pu d0 hb);clear HB;have HO263:=n0_;have HB:=n1_;clear n0_ n1_;(try clear hb);(try clear hb2);(try clear hk);(try clear hi);(try clear ho0))|(go_at_call 135;(with_reducible refine (spec_l3Matrix.calls k a1 a2 t264 _ A6.out).mono ?_);rintro e w9 ⟨v265,rfl,ho0,hb⟩;have n0_:=am (Kd.R_below d14 hb);have n1_:=am (Kd.N_lower (Kd.N_mono (ok':=fun k_=>some k_ ≠ (v262:Value).ownBlock) ho0 (fun k_ hk_=>(Kd.fresh' (Kd.R_lt d14) k_ hk_))) (pz d0));have n2_:=am (pu d0 hb);clear HO263;clear HB;have HO263:=n0_;have HO266:=n1_;have HB:=n2_;clear n0_ n1_ n2_;(try clear hb);(try clear hb2);(try clear hk);(try clear hi);(try clear ho0);obtain ⟨Ao10,co10,eo10⟩:=Kd.N_slice HO266.out;subst eo10;obtain ⟨Ao11,co11,eo11⟩:=Kd.R_slice HO263.out;subst eo11)|(go_at_call 89;(with_reducible refine (spec_l3Rows.calls k _ _ t264 _ _ t260 t267 _ ?side1 ?side2 ?side3 ?side4 A7.out).mono ?_);(case side1=>repeat (first|exact (Kd.N_reads' HO266.out).2.2|(with_reducible refine Kd.C_alloc ?_ _)|(with_reducible refine Kd.C_drewN ?_ _)|(with_reducible refine Kd.C_drew ?_)));(case side2=>exact (Kd.N_reads' HO266.out).2.1);(case side3=>repeat (first|exact (Kd.R_reads' HO263.out).2.2|(with_reducible refine Kd.C_alloc ?_ _)|(with_reducible refine Kd.C_drewN ?_ _)|(with_reducible refine Kd.C_drew ?_)));(case side4=>exact (Kd.R_reads' HO263.out).2.1);rintro e w12 ⟨v268,rfl,ho0,hb⟩;have n0_:=am (Kd.R_elder' d14 (Kd.R_base ho0) hb);have n1_:=am (Kd.N_elder' d42 (Kd.R_base ho0) hb);have n2_:=am (Kd.R_lower (Kd.R_new' ho0 (Kd.R_lt d14)) (pz d0));have n3_:=am (pu d0 hb);clear HO263;clear HO266;clear HB;have HO263:=n0_;have HO266:=n1_;have HO269:=n2_;have HB:=n3_;clear n0_ n1_ n2_ n3_;(try clear hb);(try clear hb2);(try clear hk);(try clear hi);(try clear ho0))))
  go_loopg [29] k (fun kq v29 w'=>∃ (x29_1:Int),v29 = .int .i64 x29_1∧Aside0 (spec_CheckShards.l0 kq t267 l0 (l0.length:Int) x29_1=some (r1,r2))∧Aside0 (kq≤k)∧Aside0 (Kd.R Kd.string 9 w' w.heap.size (fun _=>True) v268 t267)∧Aside0 (Below w.heap.size w w'))
  case atStart=>exact ⟨(0),d2,H',⟨Nat.le_refl _⟩,⟨by (with_reducible repeat (first|apply Kd.R_alloc|apply Kd.R_drewN|apply Kd.R_drew));exact Kd.R_mono HO269.out (fun _ hk=>trivial)⟩,⟨d0⟩⟩
  case round =>
   clear H'
   try clear p2
   try clear c5
   obtain ⟨x29_1,rfl,HA,HK1,HO_10,HB⟩:=hrel
   cases gk with
   | zero=>exact absurd HA.out (by simp [spec_CheckShards.l0])
   | succ k1 =>
    have H:=HA.out
    clear HA
    simp only [spec_CheckShards.l0] at H
    by_cases c13:x29_1 < (l0.length:Int)
    ·rw [if_pos c13] at H
     have c13b0:decide (x29_1 < (l0.length:Int))=true:=decide_eq_true c13
     clear c13
     by_cases c14:0≤x29_1
     ·rw [if_pos c14] at H
      have c14b0:decide (0≤x29_1)=true:=decide_eq_true c14
      clear c14
      by_cases c15:x29_1 < (l0.length:Int)
      ·rw [if_pos c15] at H
       have c15b0:decide (x29_1 < (l0.length:Int))=true:=decide_eq_true c15
       clear c15
       by_cases c16:0≤((rd_T84 l0 x29_1).f0)
       ·rw [if_pos c16] at H
        have c16b0:decide (0≤((rd_T84 l0 x29_1).f0))=true:=decide_eq_true c16
        clear c16
        by_cases c17:((rd_T84 l0 x29_1).f0) < (t267.length:Int)
        ·rw [if_pos c17] at H
         have c17b0:decide (((rd_T84 l0 x29_1).f0) < (t267.length:Int))=true:=decide_eq_true c17
         clear c17
         by_cases c18:(rdOf ByteArray.empty t267 ((rd_T84 l0 x29_1).f0)).toList=((rd_T84 l0 x29_1).f1).toList
         ·rw [if_pos c18] at H
          have c18b0:((rdOf ByteArray.empty t267 ((rd_T84 l0 x29_1).f0)).toList == ((rd_T84 l0 x29_1).f1).toList)=true:=beq_iff_eq.mpr c18
          have c18b1:((rdOf ByteArray.empty t267 ((rd_T84 l0 x29_1).f0)).toList != ((rd_T84 l0 x29_1).f1).toList)=false:=bne_eq_false_iff_eq.mpr c18
          clear c18
          have H':=am H
          clear H
          have p270:0≤(x29_1:Int):=od d1
          have q270:x29_1 < (l0.length:Int):=od d1
          obtain ⟨ad270,e270,hx270_0,hx270_1⟩:=at_T84 HR0.out x29_1 p270 q270
          cases e270
          replace hx270_0:=(HB.out.cell (World.block_lt_of_cell? w _ hx270_0)).trans hx270_0
          replace hx270_1:=(HB.out.cell (World.block_lt_of_cell? w _ hx270_1)).trans hx270_1
          replace p270:=eq_true p270
          replace q270:=eq_true q270
          go_wp2_with (first|((with_reducible refine gate_dst (N:=12) rfl ?_);refine box_event ?hg (N:=12) ?hd (cs:=#[.int .i64 0, .string (⟨#[]⟩:ByteArray)]) (t:=84) ?hr ?_;(case hd=>rfl);(case hg=>rfl);(case hr=>first|(go_simp;done)|(go_simp;rfl));intro gb271 hg w19 hbox hb;have n0_:=am (Kd.R_below d13 hb);have n1_:=am (pu d0 hb);have n2_:=am (hbox);have n3_:=am ((by rw [hg];exact (pz d0):w.heap.size≤gb271));have n4_:=n3_;clear HO_10;clear HB;have HO_10:=n0_;have HB:=n1_;have BK271:=n2_;have GW271:=n3_;have GE271:=n4_;clear n0_ n1_ n2_ n3_ n4_;clear hb hbox hg;have hcz20_0:w19.cell? ⟨gb271,0,none⟩=some (.int .i64 0):=(blk_cell BK271.out 0).trans rfl;have hcz20_1:w19.cell? ⟨gb271,1,none⟩=some (.string (⟨#[]⟩:ByteArray)):=(blk_cell BK271.out 1).trans rfl;have hfz20_0:=blk_frozen BK271.out 0;have hfz20_1:=blk_frozen BK271.out 1;obtain ⟨Ao21,co21,eo21⟩:=Kd.R_slice HO_10.out;subst eo21;have p272:0≤(((rd_T84 l0 x29_1).f0):Int):=od d1;have q272:((rd_T84 l0 x29_1).f0) < (t267.length:Int):=od d1;obtain ⟨ad272,e272,hx272_0⟩:=Kd.at_string (Kd.R_reads' HO_10.out).2.2 ((rd_T84 l0 x29_1).f0) p272 q272;cases e272;have hn272_0:ad272.block ≠ gb271:=Kd.own_blk (Kd.R_ne HO_10.out BK271.out d11);have hn272_1:ad272.block ≠ gb271:=Kd.own_blk (Kd.R_ne HO_10.out BK271.out d11);replace hx272_0:=(cell_far (p:=⟨gb271,0,none⟩) d25 (.int .i64 ((rd_T84 l0 x29_1).f0))).trans hx272_0;replace hx272_0:=(cell_far (p:=⟨gb271,1,none⟩) d24 (.string ((rd_T84 l0 x29_1).f1))).trans hx272_0;(try have hy272_0:=fun (n_:Nat)=>(show ((((w19.drewN n_).setCell ⟨gb271,0,none⟩ (.int .i64 ((rd_T84 l0 x29_1).f0))).setCell ⟨gb271,1,none⟩ (.string ((rd_T84 l0 x29_1).f1)))).cell? _=some _ from hx272_0));clear hn272_0;clear hn272_1;replace p272:=eq_true p272;replace q272:=eq_true q272))
          repeat (go_quiet (first|((with_reducible refine gate_dst (N:=12) rfl ?_);refine box_event ?hg (N:=12) ?hd (cs:=#[.int .i64 0, .string (⟨#[]⟩:ByteArray)]) (t:=84) ?hr ?_;(case hd=>rfl);(case hg=>rfl);(case hr=>first|(go_simp;done)|(go_simp;rfl));intro gb271 hg w19 hbox hb;have n0_:=am (Kd.R_below d13 hb);have n1_:=am (pu d0 hb);have n2_:=am (hbox);have n3_:=am ((by rw [hg];exact (pz d0):w.heap.size≤gb271));have n4_:=n3_;clear HO_10;clear HB;have HO_10:=n0_;have HB:=n1_;have BK271:=n2_;have GW271:=n3_;have GE271:=n4_;clear n0_ n1_ n2_ n3_ n4_;clear hb hbox hg;have hcz20_0:w19.cell? ⟨gb271,0,none⟩=some (.int .i64 0):=(blk_cell BK271.out 0).trans rfl;have hcz20_1:w19.cell? ⟨gb271,1,none⟩=some (.string (⟨#[]⟩:ByteArray)):=(blk_cell BK271.out 1).trans rfl;have hfz20_0:=blk_frozen BK271.out 0;have hfz20_1:=blk_frozen BK271.out 1;obtain ⟨Ao21,co21,eo21⟩:=Kd.R_slice HO_10.out;subst eo21;have p272:0≤(((rd_T84 l0 x29_1).f0):Int):=od d1;have q272:((rd_T84 l0 x29_1).f0) < (t267.length:Int):=od d1;obtain ⟨ad272,e272,hx272_0⟩:=Kd.at_string (Kd.R_reads' HO_10.out).2.2 ((rd_T84 l0 x29_1).f0) p272 q272;cases e272;have hn272_0:ad272.block ≠ gb271:=Kd.own_blk (Kd.R_ne HO_10.out BK271.out d11);have hn272_1:ad272.block ≠ gb271:=Kd.own_blk (Kd.R_ne HO_10.out BK271.out d11);replace hx272_0:=(cell_far (p:=⟨gb271,0,none⟩) d25 (.int .i64 ((rd_T84 l0 x29_1).f0))).trans hx272_0;replace hx272_0:=(cell_far (p:=⟨gb271,1,none⟩) d24 (.string ((rd_T84 l0 x29_1).f1))).trans hx272_0;(try have hy272_0:=fun (n_:Nat)=>(show ((((w19.drewN n_).setCell ⟨gb271,0,none⟩ (.int .i64 ((rd_T84 l0 x29_1).f0))).setCell ⟨gb271,1,none⟩ (.string ((rd_T84 l0 x29_1).f1)))).cell? _=some _ from hx272_0));clear hn272_0;clear hn272_1;replace p272:=eq_true p272;replace q272:=eq_true q272));try go_wp2_with (first|((with_reducible refine gate_dst (N:=12) rfl ?_);refine box_event ?hg (N:=12) ?hd (cs:=#[.int .i64 0, .string (⟨#[]⟩:ByteArray)]) (t:=84) ?hr ?_;(case hd=>rfl);(case hg=>rfl);(case hr=>first|(go_simp;done)|(go_simp;rfl));intro gb271 hg w19 hbox hb;have n0_:=am (Kd.R_below d13 hb);have n1_:=am (pu d0 hb);have n2_:=am (hbox);have n3_:=am ((by rw [hg];exact (pz d0):w.heap.size≤gb271));have n4_:=n3_;clear HO_10;clear HB;have HO_10:=n0_;have HB:=n1_;have BK271:=n2_;have GW271:=n3_;have GE271:=n4_;clear n0_ n1_ n2_ n3_ n4_;clear hb hbox hg;have hcz20_0:w19.cell? ⟨gb271,0,none⟩=some (.int .i64 0):=(blk_cell BK271.out 0).trans rfl;have hcz20_1:w19.cell? ⟨gb271,1,none⟩=some (.string (⟨#[]⟩:ByteArray)):=(blk_cell BK271.out 1).trans rfl;have hfz20_0:=blk_frozen BK271.out 0;have hfz20_1:=blk_frozen BK271.out 1;obtain ⟨Ao21,co21,eo21⟩:=Kd.R_slice HO_10.out;subst eo21;have p272:0≤(((rd_T84 l0 x29_1).f0):Int):=od d1;have q272:((rd_T84 l0 x29_1).f0) < (t267.length:Int):=od d1;obtain ⟨ad272,e272,hx272_0⟩:=Kd.at_string (Kd.R_reads' HO_10.out).2.2 ((rd_T84 l0 x29_1).f0) p272 q272;cases e272;have hn272_0:ad272.block ≠ gb271:=Kd.own_blk (Kd.R_ne HO_10.out BK271.out d11);have hn272_1:ad272.block ≠ gb271:=Kd.own_blk (Kd.R_ne HO_10.out BK271.out d11);replace hx272_0:=(cell_far (p:=⟨gb271,0,none⟩) d25 (.int .i64 ((rd_T84 l0 x29_1).f0))).trans hx272_0;replace hx272_0:=(cell_far (p:=⟨gb271,1,none⟩) d24 (.string ((rd_T84 l0 x29_1).f1))).trans hx272_0;(try have hy272_0:=fun (n_:Nat)=>(show ((((w19.drewN n_).setCell ⟨gb271,0,none⟩ (.int .i64 ((rd_T84 l0 x29_1).f0))).setCell ⟨gb271,1,none⟩ (.string ((rd_T84 l0 x29_1).f1)))).cell? _=some _ from hx272_0));clear hn272_0;clear hn272_1;replace p272:=eq_true p272;replace q272:=eq_true q272)))
          go_roundg k1
          case measure=>have:=HK1.out;omega
          case rel=>exact ⟨(wrap64 (x29_1+1)),d2,H',⟨d26⟩,⟨by (with_reducible repeat (first|apply Kd.R_alloc|apply Kd.R_drewN|apply Kd.R_drew));exact Kd.R_mono (Kd.R_far (p:=⟨gb271,1,none⟩) (Kd.R_far (p:=⟨gb271,0,none⟩) (Kd.R_types HO_10.out BK271.out d11) (fun _ hk=>hk.2) (.int .i64 ((rd_T84 l0 x29_1).f0))) (fun _ hk=>hk.2) (.string ((rd_T84 l0 x29_1).f1))) (fun _ hk=>trivial)⟩,⟨by repeat (first|(with_reducible first|exact HB.out|apply pa|apply pb|apply pd|refine pt ?_ GE271.out)|exact HB.out)⟩⟩
         rw [if_neg c18] at H
         have c18b0:((rdOf ByteArray.empty t267 ((rd_T84 l0 x29_1).f0)).toList == ((rd_T84 l0 x29_1).f1).toList)=false:=beq_eq_false_iff_ne.mpr c18
         have c18b1:((rdOf ByteArray.empty t267 ((rd_T84 l0 x29_1).f0)).toList != ((rd_T84 l0 x29_1).f1).toList)=true:=bne_iff_ne.mpr c18
         simp only [Option.some.injEq,Prod.mk.injEq] at H
         obtain ⟨rfl,rfl⟩:=H
         have p270:0≤(x29_1:Int):=od d1
         have q270:x29_1 < (l0.length:Int):=od d1
         obtain ⟨ad270,e270,hx270_0,hx270_1⟩:=at_T84 HR0.out x29_1 p270 q270
         cases e270
         replace hx270_0:=(HB.out.cell (World.block_lt_of_cell? w _ hx270_0)).trans hx270_0
         replace hx270_1:=(HB.out.cell (World.block_lt_of_cell? w _ hx270_1)).trans hx270_1
         replace p270:=eq_true p270
         replace q270:=eq_true q270
         go_wp2_with (first|((with_reducible refine gate_dst (N:=12) rfl ?_);refine box_event ?hg (N:=12) ?hd (cs:=#[.int .i64 0, .string (⟨#[]⟩:ByteArray)]) (t:=84) ?hr ?_;(case hd=>rfl);(case hg=>rfl);(case hr=>first|(go_simp;done)|(go_simp;rfl));intro gb271 hg w22 hbox hb;have n0_:=am (Kd.R_below d13 hb);have n1_:=am (pu d0 hb);have n2_:=am (hbox);have n3_:=am ((by rw [hg];exact (pz d0):w.heap.size≤gb271));have n4_:=n3_;clear HO_10;clear HB;have HO_10:=n0_;have HB:=n1_;have BK271:=n2_;have GW271:=n3_;have GE271:=n4_;clear n0_ n1_ n2_ n3_ n4_;clear hb hbox hg;have hcz23_0:w22.cell? ⟨gb271,0,none⟩=some (.int .i64 0):=(blk_cell BK271.out 0).trans rfl;have hcz23_1:w22.cell? ⟨gb271,1,none⟩=some (.string (⟨#[]⟩:ByteArray)):=(blk_cell BK271.out 1).trans rfl;have hfz23_0:=blk_frozen BK271.out 0;have hfz23_1:=blk_frozen BK271.out 1;obtain ⟨Ao24,co24,eo24⟩:=Kd.R_slice HO_10.out;subst eo24;have p272:0≤(((rd_T84 l0 x29_1).f0):Int):=od d1;have q272:((rd_T84 l0 x29_1).f0) < (t267.length:Int):=od d1;obtain ⟨ad272,e272,hx272_0⟩:=Kd.at_string (Kd.R_reads' HO_10.out).2.2 ((rd_T84 l0 x29_1).f0) p272 q272;cases e272;have hn272_0:ad272.block ≠ gb271:=Kd.own_blk (Kd.R_ne HO_10.out BK271.out d11);have hn272_1:ad272.block ≠ gb271:=Kd.own_blk (Kd.R_ne HO_10.out BK271.out d11);replace hx272_0:=(cell_far (p:=⟨gb271,0,none⟩) d25 (.int .i64 ((rd_T84 l0 x29_1).f0))).trans hx272_0;replace hx272_0:=(cell_far (p:=⟨gb271,1,none⟩) d24 (.string ((rd_T84 l0 x29_1).f1))).trans hx272_0;(try have hy272_0:=fun (n_:Nat)=>(show ((((w22.drewN n_).setCell ⟨gb271,0,none⟩ (.int .i64 ((rd_T84 l0 x29_1).f0))).setCell ⟨gb271,1,none⟩ (.string ((rd_T84 l0 x29_1).f1)))).cell? _=some _ from hx272_0));clear hn272_0;clear hn272_1;replace p272:=eq_true p272;replace q272:=eq_true q272))
         repeat (go_quiet (first|((with_reducible refine gate_dst (N:=12) rfl ?_);refine box_event ?hg (N:=12) ?hd (cs:=#[.int .i64 0, .string (⟨#[]⟩:ByteArray)]) (t:=84) ?hr ?_;(case hd=>rfl);(case hg=>rfl);(case hr=>first|(go_simp;done)|(go_simp;rfl));intro gb271 hg w22 hbox hb;have n0_:=am (Kd.R_below d13 hb);have n1_:=am (pu d0 hb);have n2_:=am (hbox);have n3_:=am ((by rw [hg];exact (pz d0):w.heap.size≤gb271));have n4_:=n3_;clear HO_10;clear HB;have HO_10:=n0_;have HB:=n1_;have BK271:=n2_;have GW271:=n3_;have GE271:=n4_;clear n0_ n1_ n2_ n3_ n4_;clear hb hbox hg;have hcz23_0:w22.cell? ⟨gb271,0,none⟩=some (.int .i64 0):=(blk_cell BK271.out 0).trans rfl;have hcz23_1:w22.cell? ⟨gb271,1,none⟩=some (.string (⟨#[]⟩:ByteArray)):=(blk_cell BK271.out 1).trans rfl;have hfz23_0:=blk_frozen BK271.out 0;have hfz23_1:=blk_frozen BK271.out 1;obtain ⟨Ao24,co24,eo24⟩:=Kd.R_slice HO_10.out;subst eo24;have p272:0≤(((rd_T84 l0 x29_1).f0):Int):=od d1;have q272:((rd_T84 l0 x29_1).f0) < (t267.length:Int):=od d1;obtain ⟨ad272,e272,hx272_0⟩:=Kd.at_string (Kd.R_reads' HO_10.out).2.2 ((rd_T84 l0 x29_1).f0) p272 q272;cases e272;have hn272_0:ad272.block ≠ gb271:=Kd.own_blk (Kd.R_ne HO_10.out BK271.out d11);have hn272_1:ad272.block ≠ gb271:=Kd.own_blk (Kd.R_ne HO_10.out BK271.out d11);replace hx272_0:=(cell_far (p:=⟨gb271,0,none⟩) d25 (.int .i64 ((rd_T84 l0 x29_1).f0))).trans hx272_0;replace hx272_0:=(cell_far (p:=⟨gb271,1,none⟩) d24 (.string ((rd_T84 l0 x29_1).f1))).trans hx272_0;(try have hy272_0:=fun (n_:Nat)=>(show ((((w22.drewN n_).setCell ⟨gb271,0,none⟩ (.int .i64 ((rd_T84 l0 x29_1).f0))).setCell ⟨gb271,1,none⟩ (.string ((rd_T84 l0 x29_1).f1)))).cell? _=some _ from hx272_0));clear hn272_0;clear hn272_1;replace p272:=eq_true p272;replace q272:=eq_true q272));try go_wp2_with (first|((with_reducible refine gate_dst (N:=12) rfl ?_);refine box_event ?hg (N:=12) ?hd (cs:=#[.int .i64 0, .string (⟨#[]⟩:ByteArray)]) (t:=84) ?hr ?_;(case hd=>rfl);(case hg=>rfl);(case hr=>first|(go_simp;done)|(go_simp;rfl));intro gb271 hg w22 hbox hb;have n0_:=am (Kd.R_below d13 hb);have n1_:=am (pu d0 hb);have n2_:=am (hbox);have n3_:=am ((by rw [hg];exact (pz d0):w.heap.size≤gb271));have n4_:=n3_;clear HO_10;clear HB;have HO_10:=n0_;have HB:=n1_;have BK271:=n2_;have GW271:=n3_;have GE271:=n4_;clear n0_ n1_ n2_ n3_ n4_;clear hb hbox hg;have hcz23_0:w22.cell? ⟨gb271,0,none⟩=some (.int .i64 0):=(blk_cell BK271.out 0).trans rfl;have hcz23_1:w22.cell? ⟨gb271,1,none⟩=some (.string (⟨#[]⟩:ByteArray)):=(blk_cell BK271.out 1).trans rfl;have hfz23_0:=blk_frozen BK271.out 0;have hfz23_1:=blk_frozen BK271.out 1;obtain ⟨Ao24,co24,eo24⟩:=Kd.R_slice HO_10.out;subst eo24;have p272:0≤(((rd_T84 l0 x29_1).f0):Int):=od d1;have q272:((rd_T84 l0 x29_1).f0) < (t267.length:Int):=od d1;obtain ⟨ad272,e272,hx272_0⟩:=Kd.at_string (Kd.R_reads' HO_10.out).2.2 ((rd_T84 l0 x29_1).f0) p272 q272;cases e272;have hn272_0:ad272.block ≠ gb271:=Kd.own_blk (Kd.R_ne HO_10.out BK271.out d11);have hn272_1:ad272.block ≠ gb271:=Kd.own_blk (Kd.R_ne HO_10.out BK271.out d11);replace hx272_0:=(cell_far (p:=⟨gb271,0,none⟩) d25 (.int .i64 ((rd_T84 l0 x29_1).f0))).trans hx272_0;replace hx272_0:=(cell_far (p:=⟨gb271,1,none⟩) d24 (.string ((rd_T84 l0 x29_1).f1))).trans hx272_0;(try have hy272_0:=fun (n_:Nat)=>(show ((((w22.drewN n_).setCell ⟨gb271,0,none⟩ (.int .i64 ((rd_T84 l0 x29_1).f0))).setCell ⟨gb271,1,none⟩ (.string ((rd_T84 l0 x29_1).f1)))).cell? _=some _ from hx272_0));clear hn272_0;clear hn272_1;replace p272:=eq_true p272;replace q272:=eq_true q272)))
         go_ret2
         exact ⟨d5,by repeat (first|(with_reducible first|exact HB.out|apply pa|apply pb|apply pd|refine pt ?_ GE271.out)|exact HB.out)⟩
        rw [if_neg c17] at H
        exact absurd H d20
       rw [if_neg c16] at H
       exact absurd H d20
      rw [if_neg c15] at H
      exact absurd H d20
     rw [if_neg c14] at H
     exact absurd H d20
    rw [if_neg c13] at H
    have c13b0:decide (x29_1 < (l0.length:Int))=false:=decide_eq_false c13
    clear c13
    simp only [Option.some.injEq,Prod.mk.injEq] at H
    obtain ⟨rfl,rfl⟩:=H
    go_wp2
    repeat (go_quiet (fail);try go_wp2)
    go_ret2
    exact ⟨d5,d0⟩
 replace c5:=Bool.eq_false_iff.mpr c5
 subst c5
 have H1:(some (false,false))=some (r1,r2):=by rw [if_neg (show ¬ (false=true) by decide)] at H;exact H
 clear H
 have H:=H1
 clear H1
 simp only [Option.some.injEq,Prod.mk.injEq] at H
 obtain ⟨rfl,rfl⟩:=H
 go_enter Try.func59,Try.ntmps59
 go_wp2_with (first|(go_at_call 61;(with_reducible refine (spec_DecodeShards.calls k _ _ l0 a1 a2 t260 false _ ?side1 ?side2 A4.out).mono ?_);(case side1=>repeat (first|exact HR0.out|(with_reducible refine Kd.C_alloc ?_ _)|(with_reducible refine Kd.C_drewN ?_ _)|(with_reducible refine Kd.C_drew ?_)));(case side2=>exact HC0.out);rintro e w25 ⟨v262,rfl,ho0,hb⟩;have n0_:=am (Kd.R_lower ho0 (pz d0));have n1_:=am (pu d0 hb);clear HB;have HO263:=n0_;have HB:=n1_;clear n0_ n1_;(try clear hb);(try clear hb2);(try clear hk);(try clear hi);(try clear ho0)))
 repeat (go_quiet (first|(go_at_call 61;(with_reducible refine (spec_DecodeShards.calls k _ _ l0 a1 a2 t260 false _ ?side1 ?side2 A4.out).mono ?_);(case side1=>repeat (first|exact HR0.out|(with_reducible refine Kd.C_alloc ?_ _)|(with_reducible refine Kd.C_drewN ?_ _)|(with_reducible refine Kd.C_drew ?_)));(case side2=>exact HC0.out);rintro e w25 ⟨v262,rfl,ho0,hb⟩;have n0_:=am (Kd.R_lower ho0 (pz d0));have n1_:=am (pu d0 hb);clear HB;have HO263:=n0_;have HB:=n1_;clear n0_ n1_;(try clear hb);(try clear hb2);(try clear hk);(try clear hi);(try clear ho0)));try go_wp2_with (first|(go_at_call 61;(with_reducible refine (spec_DecodeShards.calls k _ _ l0 a1 a2 t260 false _ ?side1 ?side2 A4.out).mono ?_);(case side1=>repeat (first|exact HR0.out|(with_reducible refine Kd.C_alloc ?_ _)|(with_reducible refine Kd.C_drewN ?_ _)|(with_reducible refine Kd.C_drew ?_)));(case side2=>exact HC0.out);rintro e w25 ⟨v262,rfl,ho0,hb⟩;have n0_:=am (Kd.R_lower ho0 (pz d0));have n1_:=am (pu d0 hb);clear HB;have HO263:=n0_;have HB:=n1_;clear n0_ n1_;(try clear hb);(try clear hb2);(try clear hk);(try clear hi);(try clear ho0))))
 go_ret2
 exact ⟨d5,d0⟩

def impl_identity.l0:Nat→Int→List (List Int)→Int→Int→Option ((List (List Int)))
 | 0,_,_,_,_=>none
 | k+1,x0,x3,x7,x8=>if x8 < x7 then (if 0≤x0 then (if (x0:Int).toNat≤281474976710656 then ((some (List.replicate (x0:Int).toNat 0:List Int)).bind fun y276=>(if 0≤x8 then (if x8 < (y276.length:Int) then (if x3.length < 5864062014805 then (impl_identity.l0 k x0 (x3 ++ [(y276.set (x8:Int).toNat 1)]) x7 (wrap64 (x8+1))) else (none)) else (none)) else (none))) else (none)) else (none)) else (some x3)
def impl_identity.f (k:Nat) (a0:Int):Option ((List (List Int))):=impl_identity.l0 k a0 (([]:List (List Int))) a0 0
theorem impl_identity.mono_l:∀ k,(∀ y0 y1 y2 y3,LeO (impl_identity.l0 k y0 y1 y2 y3) (impl_identity.l0 (k+1) y0 y1 y2 y3))
 | 0=>fun _ _ _ _ r h=>by simp [impl_identity.l0] at h
 | k+1=>by
  have ih0:=impl_identity.mono_l k
  intro y0 y1 y2 y3
  unfold impl_identity.l0
  repeat' first
  | (with_reducible exact ih0 _ _ _ _)
  |(with_reducible exact LeO.refl _)|(with_reducible exact LeO.none _)|(with_reducible refine LeO.ite ?_ ?_)|(with_reducible refine LeO.bind ?_ (fun _=>?_))|exact ih0 _ _ _ _|exact LeO.none _|refine LeO.ite ?_ ?_|refine LeO.bind ?_ (fun _=>?_)
theorem impl_identity.mono:∀ a0 k,LeO (impl_identity.f k a0) (impl_identity.f (k+1) a0):=by
 intro a0 k
 have ih0:=impl_identity.mono_l k
 unfold impl_identity.f
 repeat' first
   | (with_reducible exact ih0 _ _ _ _)
   |(with_reducible exact LeO.refl _)|(with_reducible exact LeO.none _)|(with_reducible refine LeO.ite ?_ ?_)|(with_reducible refine LeO.bind ?_ (fun _=>?_))|exact ih0 _ _ _ _|exact LeO.none _|refine LeO.ite ?_ ?_|refine LeO.bind ?_ (fun _=>?_)
theorem impl_identity.calls (k:Nat) (a0:Int) (r:List (List Int)) (w:World) (h:impl_identity.f k a0=some r) :
  Calls Try.prog 168 #[.int .i64 a0] w fun e w'=>∃ v0_:Value,e = .returned (v0_)∧Kd.S (Kd.slice 5 (Kd.int .u8)) 57 w' w.heap.size (fun _=>True) v0_ r∧Below w.heap.size w w':=by
 have HB:=am (Below.refl w.heap.size w)
 have H:(impl_identity.l0 k a0 (([]:List (List Int))) a0 0)=some r:=h
 clear h
 obtain ⟨y273,hy273⟩:∃ y_:List (List Int),y_=(([]:List (List Int))):=⟨_,rfl⟩
 replace H:(impl_identity.l0 k a0 y273 a0 0)=some r:=by first|(rw [hy273];with_reducible exact H)|(have H2_:=(Option.bind_some _ _).symm.trans H;rw [hy273];with_reducible exact H2_)|(have H2_:=(Option.bind_some _ _).symm.trans H;with_reducible exact H2_)|with_reducible exact H|(rw [hy273];exact H)|exact H
 have Ny273:=am hy273
 clear hy273
 have H':=am H
 clear H
 go_enter Try.func168,Try.ntmps168
 go_wp2_with (first|((with_reducible refine gate_dst (N:=6) rfl ?_);refine Kd.S_lit (Kd.slice 5 (Kd.int .u8)) _ 57 ?hg (N:=6) ?hd (xs:=([]:List (List Int))) (inner:=[]) (ok:=fun _=>True) (okp:=fun _=>True) ?hr ?hp (fun _ hk=>hk) trivial (Below.refl _ _) (Nat.le_refl _) d20 ?_;(case hd=>rfl);(case hg=>rfl);(case hr=>first|(go_simp;done)|(go_simp;rfl));(case hp=>exact (Reps.none _ _));intro v274 w2 ho3 hb hg_ hnew_;clear hg_ hnew_;(first|rw [← Ny273.out] at ho3|(simp only [Int.reduceToNat] at ho3;rw [← Ny273.out] at ho3));have n0_:=am (Kd.S_lower ho3 (pz d0));have n1_:=am (pu d0 hb);clear HB;have HO275:=n0_;have HB:=n1_;clear n0_ n1_;clear hb ho3))
 go_loopg [3,8] k (fun kq v3 v8 w'=>∃ (x3_1:List (List Int)) (x8_1:Int),v8 = .int .i64 x8_1∧Aside0 (impl_identity.l0 kq a0 x3_1 a0 x8_1=some r)∧Aside0 (kq≤k)∧Aside0 (Kd.S (Kd.slice 5 (Kd.int .u8)) 57 w' w.heap.size (fun _=>True) v3 x3_1)∧Aside0 (Below w.heap.size w w'))
 case atStart=>exact ⟨(y273),(0),d2,H',⟨Nat.le_refl _⟩,⟨by (with_reducible repeat (first|apply Kd.S_alloc|apply Kd.S_drewN|apply Kd.S_drew));exact HO275.out⟩,⟨d0⟩⟩
 case round =>
  clear H'
  try clear c1
  try clear p2
  obtain ⟨x3_1,x8_1,rfl,HA,HK1,HO_3,HB⟩:=hrel
  cases gk with
  | zero=>exact absurd HA.out (by simp [impl_identity.l0])
  | succ k1 =>
   have H:=HA.out
   clear HA
   simp only [impl_identity.l0] at H
   by_cases c4:x8_1 < a0
   ·rw [if_pos c4] at H
    have c4b0:decide (x8_1 < a0)=true:=decide_eq_true c4
    clear c4
    by_cases c5:0≤a0
    ·rw [if_pos c5] at H
     have c5b0:=eq_true c5
     have c5b1:decide (0≤a0)=true:=decide_eq_true c5
     clear c5
     by_cases c6:(a0:Int).toNat≤281474976710656
     ·rw [if_pos c6] at H
      have c6b0:=eq_true c6
      have c6b1:decide ((a0:Int).toNat≤281474976710656)=true:=decide_eq_true c6
      clear c6
      obtain ⟨y276,hy276⟩:∃ y_:List Int,y_=(List.replicate (a0:Int).toNat 0):=⟨_,rfl⟩
      replace H:(if 0≤x8_1 then (if x8_1 < (y276.length:Int) then (if x3_1.length < 5864062014805 then (impl_identity.l0 k1 a0 (x3_1 ++ [(y276.set (x8_1:Int).toNat 1)]) a0 (wrap64 (x8_1+1))) else (none)) else (none)) else (none))=some r:=by first|(rw [hy276];with_reducible exact H)|(have H2_:=(Option.bind_some _ _).symm.trans H;rw [hy276];with_reducible exact H2_)|(have H2_:=(Option.bind_some _ _).symm.trans H;with_reducible exact H2_)|with_reducible exact H|(rw [hy276];exact H)|exact H
      have Ny276:=am hy276
      clear hy276
      by_cases c7:0≤x8_1
      ·rw [if_pos c7] at H
       have c7b0:decide (0≤x8_1)=true:=decide_eq_true c7
       clear c7
       by_cases c8:x8_1 < (y276.length:Int)
       ·rw [if_pos c8] at H
        have c8b0:decide (x8_1 < (y276.length:Int))=true:=decide_eq_true c8
        clear c8
        obtain ⟨y279,hy279⟩:∃ y_:List Int,y_=(y276.set (x8_1:Int).toNat 1):=⟨_,rfl⟩
        replace H:(if x3_1.length < 5864062014805 then (impl_identity.l0 k1 a0 (x3_1 ++ [y279]) a0 (wrap64 (x8_1+1))) else (none))=some r:=by first|(rw [hy279];with_reducible exact H)|(have H2_:=(Option.bind_some _ _).symm.trans H;rw [hy279];with_reducible exact H2_)|(have H2_:=(Option.bind_some _ _).symm.trans H;with_reducible exact H2_)|with_reducible exact H|(rw [hy279];exact H)|exact H
        have Ny279:=am hy279
        clear hy279
        by_cases c10:x3_1.length < 5864062014805
        ·rw [if_pos c10] at H
         have LMc10:=am c10
         clear c10
         obtain ⟨y280,hy280⟩:∃ y_:List (List Int),y_=(x3_1 ++ [y279]):=⟨_,rfl⟩
         replace H:(impl_identity.l0 k1 a0 y280 a0 (wrap64 (x8_1+1)))=some r:=by first|(rw [hy280];with_reducible exact H)|(have H2_:=(Option.bind_some _ _).symm.trans H;rw [hy280];with_reducible exact H2_)|(have H2_:=(Option.bind_some _ _).symm.trans H;with_reducible exact H2_)|with_reducible exact H|(rw [hy280];exact H)|exact H
         have Ny280:=am hy280
         clear hy280
         have H':=am H
         clear H
         go_wp2_with (first|((with_reducible refine gate_dst (N:=12) rfl ?_);refine Kd.R_make (Kd.int .u8) _ 5 rfl (N:=12) rfl 57 _ _ rfl a0 rfl rfl Try.underlying57 (.int .u8 0) 1 info5 rfl d11 d6 0 (ok:=fun _=>True) (okp:=fun _=>True) rfl (fun _ hk=>hk) trivial (od d1) (Nat.le_trans (Nat.mul_le_mul_right _ (od d1:a0.toNat≤281474976710656)) d6) (Below.refl _ _) (Nat.le_refl _) ?_;intro v277 w11 ho12 hb hg_ hnew_;clear hg_ hnew_;(first|rw [← Ny276.out] at ho12|(simp only [Int.reduceToNat] at ho12;rw [← Ny276.out] at ho12));have n0_:=am (Kd.S_elder' d44 (Kd.R_base ho12) hb);have n1_:=am (Kd.R_lower ho12 (pz d0));have n2_:=am (pu d0 hb);clear HO_3;clear HB;have HO_3:=n0_;have HO278:=n1_;have HB:=n2_;clear n0_ n1_ n2_;clear hb ho12;have p9:0≤(x8_1:Int):=od d1;have q9:(x8_1:Int) < ((y276.length:Int):Int):=od d1;obtain ⟨go9,co9,eo9,gb9,gl9,cl9,HG9⟩:=Kd.R_form HO278.out d6;(first|cases eo9|(injection eo9 with ea_ en_ ec_;(first|subst ea_|(injection ea_ with ea_;subst ea_));subst ec_;clear en_));have GB9:=am gb9;have GG9:=am HG9;clear gb9 gl9 HG9;obtain ⟨hx9_0,hf9_0⟩:=Kd.R_celln 0 HO278.out (x8_1:Int) p9 q9;replace p9:=eq_true p9;replace q9:=eq_true q9;obtain ⟨hy13_,hz13_⟩:=Kd.R_celln 0 HO278.out (x8_1:Int) (od d1) (od d1);have HP13:=Kd.R_putg HO278.out (x8_1:Int) 1)|((with_reducible refine gate_store (t:=5) (p:=15) rfl ?_);refine store_event (t:=5) (p:=15) (v:=?vo_w14) (w1:=(w11.setCell ⟨go9,(x8_1:Int).toNat,none⟩ (.int .u8 1))) ?hg ?ho ?hn ?hr ?_;(case ho=>rfl);(case hg=>rfl);(case hn=>rfl);(case hr=>first|(go_simp;done)|(go_simp;rfl));intro w14 hw;have hg:w11.grownBy w14 (some go9):=(by rw [hw];exact HP13.2);have hp_:Kd.R (Kd.int .u8) 5 w14 w.heap.size (fun _=>True) (.slice (some ⟨go9,0,none⟩) y276.length co9) y279:=(by rw [hw,Ny279.out];exact HP13.1);clear HP13;have n0_:=am (Kd.S_after (v:=(.slice (some ⟨go9,0,none⟩) y276.length co9)) (v1:=(.slice (some ⟨go9,0,none⟩) y276.length co9)) (ok:=(fun _=>True)) d44 hg (.inl rfl));have n1_:=am (hp_);have n2_:=am ((by rw [hw];exact pt (HB.out) GB9.out:Below w.heap.size w w14));clear HO_3;clear HO278;clear HB;have HO_3:=n0_;have HO278:=n1_;have HB:=n2_;clear n0_ n1_ n2_;clear hg hw hp_)|((with_reducible refine gate_builtin (b:=.append) (xs:=#[.tmp 16, .tmp 18]) rfl ?_);at_builtin;refine Kd.S_append (Kd.slice 5 (Kd.int .u8)) (w0:=w) w.heap.size rfl (.tmp 16) (.tmp 18) 37 57 (.slice none 0 0) 24 rfl Try.underlying37 info57 rfl d11 d6 u3 x3_1 y279 [.slice (some ⟨go9,0,none⟩) y276.length co9] (fun _=>True) (fun k_=>some k_=(.slice (some ⟨go9,0,none⟩) y276.length co9:Value).ownBlock) rfl rfl ?aP (fun k_ hk_=>((Kd.R_mono (ok':=fun k_=>((fun _=>True)) k_∧some k_ ≠ (u3:Value).ownBlock) (Kd.R_apart' (HO278.out) (Kd.S_typed HO_3.out) d11) (fun k_ hk=>⟨trivial,hk.2⟩))).1 k_ hk_.symm) ?aF ?aO ?aB ?aS ?aL ?_;(case aP=>exact Kd.M_row (Kd.R_mono (Kd.R_tight rfl (Kd.R_mono (ok':=fun k_=>((fun _=>True)) k_∧some k_ ≠ (u3:Value).ownBlock) (Kd.R_apart' (HO278.out) (Kd.S_typed HO_3.out) d11) (fun k_ hk=>⟨trivial,hk.2⟩))) (fun _ h_=>h_)));(case aB=>exact d0);(case aF=>exact (fun _ _=>trivial));(case aO=>exact (by (with_reducible repeat (first|apply Kd.S_alloc|apply Kd.S_drewN|apply Kd.S_drew));exact Kd.S_mono HO_3.out (fun k_ hk=>⟨trivial,fun e_=>hk.2 e_⟩)));(case aS=>exact (pz d0));(case aL=>have:=LMc10.out;omega);intro v281 w15 ho hb hg hat;rw [← Ny280.out] at ho;have n0_:=am (hb);have n1_:=am (ho);clear HB;clear HO_3;clear HO278;have HB:=n0_;have HO282:=n1_;clear n0_ n1_;clear ho hb hg hat))
         go_roundg k1
         case measure=>have:=HK1.out;omega
         case rel=>exact ⟨(y280),(wrap64 (x8_1+1)),d2,H',⟨d26⟩,⟨by (with_reducible repeat (first|apply Kd.S_alloc|apply Kd.S_drewN|apply Kd.S_drew));exact HO282.out⟩,⟨d0⟩⟩
        rw [if_neg c10] at H
        exact absurd H d20
       rw [if_neg c8] at H
       exact absurd H d20
      rw [if_neg c7] at H
      exact absurd H d20
     rw [if_neg c6] at H
     exact absurd H d20
    rw [if_neg c5] at H
    exact absurd H d20
   rw [if_neg c4] at H
   have c4b0:decide (x8_1 < a0)=false:=decide_eq_false c4
   clear c4
   obtain rfl:=Option.some.inj H
   go_wp2
   go_ret
   exact ⟨_,d5,d44,d0⟩

end Go.Proofs.Ytajikfnpcobnpaa.PFnExactCheckShards
-- HALVED
-- SQUEEZED
-- SQUEEZED2
-- SQUEEZED3
-- SQUEEZED4
-- SQUEEZED5
-- SQUEEZED6
