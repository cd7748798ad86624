-- Laid by a program of this session.
import Derived.Test.YtajikfnpcobnpaaPFnExactCheckShardsx0
namespace Go.Proofs.Ytajikfnpcobnpaa.PFnExactCheckShards
open Go.RowKit Go.Proofs.YtajikfnpcobnpaaW.PrintWords Go.Proofs.YtajikfnpcobnpaaW.PrintLast Go.Proofs.YtajikfnpcobnpaaW.PrintMore
attribute [local go_sem] max2_int min2_int max_two min_two max_three min_three max_four min_four   -- for this text's walks alone
set_option linter.unusedVariables false
set_option maxHeartbeats 8000000
set_option maxRecDepth 100000
set_option linter.unusedSimpArgs false

def spec_l2Blank.l0:Nat→Int→Int→Int→List (List Int)→Option ((List (List Int)))
 | 0,_,_,_,_=>none
 | k+1,x0,x1,x6,x171000=>if x6 < x0 then (if 0≤x1 then (if (x1:Int).toNat≤281474976710656 then (if x171000.length < 5864062014805 then (spec_l2Blank.l0 k x0 x1 (wrap64 (x6+1)) (x171000 ++ [(List.replicate (x1:Int).toNat 0)])) else (none)) else (none)) else (none)) else (some x171000)
def spec_l2Blank.f (k:Nat) (a0:Int) (a1:Int):Option ((List (List Int))):=spec_l2Blank.l0 k a0 a1 0 ([]:List (List Int))
theorem spec_l2Blank.mono_l:∀ k,(∀ y0 y1 y2 y3,LeO (spec_l2Blank.l0 k y0 y1 y2 y3) (spec_l2Blank.l0 (k+1) y0 y1 y2 y3))
 | 0=>fun _ _ _ _ r h=>by simp [spec_l2Blank.l0] at h
 | k+1=>by
  have ih0:=spec_l2Blank.mono_l k
  intro y0 y1 y2 y3
  unfold spec_l2Blank.l0
  repeat' first
  | (with_reducible exact ih0 _ _ _ _)
  |(with_reducible exact LeO.refl _)|(with_reducible exact LeO.none _)|(with_reducible refine LeO.ite ?_ ?_)|(with_reducible refine LeO.bind ?_ (fun _=>?_))|exact ih0 _ _ _ _|exact LeO.none _|refine LeO.ite ?_ ?_|refine LeO.bind ?_ (fun _=>?_)
theorem spec_l2Blank.mono:∀ a0 a1 k,LeO (spec_l2Blank.f k a0 a1) (spec_l2Blank.f (k+1) a0 a1):=by
 intro a0 a1 k
 have ih0:=spec_l2Blank.mono_l k
 unfold spec_l2Blank.f
 repeat' first
   | (with_reducible exact ih0 _ _ _ _)
   |(with_reducible exact LeO.refl _)|(with_reducible exact LeO.none _)|(with_reducible refine LeO.ite ?_ ?_)|(with_reducible refine LeO.bind ?_ (fun _=>?_))|exact ih0 _ _ _ _|exact LeO.none _|refine LeO.ite ?_ ?_|refine LeO.bind ?_ (fun _=>?_)
def spec_l2Blank.T5:Bool × List (List Nat × List Nat):=(true,[([],[]),([0],[0]),([],[]),([2,2],[2]),([3],[3]),([1,4],[1,4]),([0,1,2,3,4,5],[]),([6,5,5,0,1,2,3,4,5],[5,6])])
def spec_l2Blank.B5:List Nat:=[0,1,0,4,12,31,63,127]
theorem spec_l2Blank.tab5:rtab .any (opsOf Try.f172 5)=spec_l2Blank.T5:=by kernel_rfl
theorem spec_l2Blank.bits5:waitsOk spec_l2Blank.T5.2 spec_l2Blank.B5=true:=by kernel_rfl
theorem spec_l2Blank.calls (k:Nat) (a0:Int) (a1:Int) (r:List (List Int)) (w:World) (h:spec_l2Blank.f k a0 a1=some r) :
  Calls Try.prog 172 #[.int .i64 a0, .int .i64 a1] w fun e w'=>∃ v0_:Value,e = .returned (.agg #[v0_])∧Kd.S (Kd.slice 5 (Kd.int .u8)) 57 w' w.heap.size (fun _=>True) v0_ r∧Below w.heap.size w w':=by
 have hu43:=Try.underlying43
 have HB:=am (Below.refl w.heap.size w)
 have H:(spec_l2Blank.l0 k a0 a1 0 ([]:List (List Int)))=some r:=h
 clear h
 have H':=am H
 clear H
 go_enter Try.func172,Try.ntmps172
 go_wp2_with (first|((with_reducible refine gate_dst (N:=4) rfl ?_);refine box_event ?hg (N:=4) ?hd (cs:=#[.slice none 0 0]) (t:=43) ?hr ?_;(case hd=>rfl);(case hg=>rfl);(case hr=>first|(go_simp;done)|(go_simp;rfl));intro gb169 hg w3 hbox hb;have n0_:=am (pu d0 hb);have n1_:=am (hbox);have n2_:=am ((by rw [hg];exact (pz d0):w.heap.size≤gb169));have n3_:=n2_;clear HB;have HB:=n0_;have BK169:=n1_;have GW169:=n2_;have GE169:=n3_;clear n0_ n1_ n2_ n3_;clear hb hbox hg)|((with_reducible refine gate_dst (N:=5) rfl ?_);refine box_event ?hg (N:=5) ?hd (cs:=#[.slice none 0 0]) (t:=43) ?hr ?_;(case hd=>rfl);(case hg=>rfl);(case hr=>first|(go_simp;done)|(go_simp;rfl));intro gb170 hg w4 hbox hb;have n0_:=am (qb (g:=gb169) (o:=.cells #[.slice none 0 0] 43 (0,0)) (by (with_reducible repeat (first|refine qn ?_ _|refine qd ?_|refine qa ?_ _));exact BK169.out) hb);have n1_:=am (pu (by repeat (first|(with_reducible first|exact HB.out|apply pa|apply pb|apply pd|refine pt ?_ GE169.out)|exact HB.out)) hb);have n2_:=am (hbox);have n3_:=am ((by rw [hg];exact (pz (by repeat (first|(with_reducible first|exact HB.out|apply pa|apply pb|apply pd|refine pt ?_ GE169.out)|exact HB.out))):w.heap.size≤gb170));have n4_:=n3_;have n5_:=am ((by rw [hg];exact Nat.ne_of_lt (blk_lt (g:=gb169) (o:=.cells #[.slice none 0 0] 43 (0,0)) (by (with_reducible repeat (first|refine qn ?_ _|refine qd ?_|refine qa ?_ _));exact BK169.out)):gb169 ≠ gb170));have n6_:=am ((by rw [hg];exact Nat.ne_of_gt (blk_lt (g:=gb169) (o:=.cells #[.slice none 0 0] 43 (0,0)) (by (with_reducible repeat (first|refine qn ?_ _|refine qd ?_|refine qa ?_ _));exact BK169.out)):gb170 ≠ gb169));clear BK169;clear HB;have BK169:=n0_;have HB:=n1_;have BK170:=n2_;have GW170:=n3_;have GE170:=n4_;have NB169_170:=n5_;have NB170_169:=n6_;clear n0_ n1_ n2_ n3_ n4_ n5_ n6_;clear hb hbox hg;have hnb5:=NB170_169.out;have hnc5:=NB169_170.out;have hcz6_0:w4.cell? ⟨gb170,0,none⟩=some (.slice none 0 0):=(blk_cell BK170.out 0).trans rfl;have hfz6_0:=blk_frozen BK170.out 0))
 go_loopg [6] k (fun kq v6 w'=>∃ (x6_1:Int) (x171000_1:List (List Int)) (u171000:Value),v6 = .int .i64 x6_1∧Aside0 (spec_l2Blank.l0 kq a0 a1 x6_1 x171000_1=some r)∧Aside0 (kq≤k)∧Aside0 (Kd.S (Kd.slice 5 (Kd.int .u8)) 57 w' w.heap.size (fun _=>True) u171000 x171000_1)∧Aside0 (w'.heap[gb169]? = some (.cells #[(.slice none 0 0)] 43 (0,0)))∧Aside0 (w'.heap[gb170]? = some (.cells #[u171000] 43 (0,0)))∧Aside0 (Below w.heap.size w w'))
 case atStart=>exact ⟨(0),(([]:List (List Int))),(.slice none 0 0),d2,H',⟨Nat.le_refl _⟩,⟨d41⟩,⟨by (with_reducible repeat (first|refine qn ?_ _|refine qd ?_|refine qa ?_ _));refine blk_far ?_ NB169_170.out _;(with_reducible repeat (first|refine qn ?_ _|refine qd ?_|refine qa ?_ _));exact BK169.out⟩,⟨by (with_reducible repeat (first|refine qn ?_ _|refine qd ?_|refine qa ?_ _));refine blk_put (cs:=#[.slice none 0 0]) ?_ 0 _ rfl;(with_reducible repeat (first|refine qn ?_ _|refine qd ?_|refine qa ?_ _));exact BK170.out⟩,⟨by repeat (first|(with_reducible first|exact HB.out|apply pa|apply pb|apply pd|refine pt ?_ GE169.out|refine pt ?_ GE170.out)|exact HB.out)⟩⟩
 case round =>
  clear H'
  try clear c1
  try clear p2
  try clear c5
  try clear hcz6_0
  try clear hfz6_0
  obtain ⟨x6_1,x171000_1,u171000,rfl,HA,HK1,HO_171000,BK169,BK170,HB⟩:=hrel
  cases gk with
  | zero=>exact absurd HA.out (by simp [spec_l2Blank.l0])
  | succ k1 =>
   have H:=HA.out
   clear HA
   simp only [spec_l2Blank.l0] at H
   by_cases c7:x6_1 < a0
   ·rw [if_pos c7] at H
    have c7b0:decide (x6_1 < a0)=true:=decide_eq_true c7
    clear c7
    by_cases c8:0≤a1
    ·rw [if_pos c8] at H
     have c8b0:=eq_true c8
     have c8b1:decide (0≤a1)=true:=decide_eq_true c8
     clear c8
     by_cases c9:(a1:Int).toNat≤281474976710656
     ·rw [if_pos c9] at H
      have c9b0:=eq_true c9
      have c9b1:decide ((a1:Int).toNat≤281474976710656)=true:=decide_eq_true c9
      clear c9
      obtain ⟨y171,hy171⟩:∃ y_:List Int,y_=(List.replicate (a1:Int).toNat 0):=⟨_,rfl⟩
      replace H:(if x171000_1.length < 5864062014805 then (spec_l2Blank.l0 k1 a0 a1 (wrap64 (x6_1+1)) (x171000_1 ++ [y171])) else (none))=some r:=by first|(rw [hy171];with_reducible exact H)|(have H2_:=(Option.bind_some _ _).symm.trans H;rw [hy171];with_reducible exact H2_)|(have H2_:=(Option.bind_some _ _).symm.trans H;with_reducible exact H2_)|with_reducible exact H|(rw [hy171];exact H)|exact H
      have Ny171:=am hy171
      clear hy171
      by_cases c10:x171000_1.length < 5864062014805
      ·rw [if_pos c10] at H
       have LMc10:=am c10
       clear c10
       obtain ⟨y174,hy174⟩:∃ y_:List (List Int),y_=(x171000_1 ++ [y171]):=⟨_,rfl⟩
       replace H:(spec_l2Blank.l0 k1 a0 a1 (wrap64 (x6_1+1)) y174)=some r:=by first|(rw [hy174];with_reducible exact H)|(have H2_:=(Option.bind_some _ _).symm.trans H;rw [hy174];with_reducible exact H2_)|(have H2_:=(Option.bind_some _ _).symm.trans H;with_reducible exact H2_)|with_reducible exact H|(rw [hy174];exact H)|exact H
       have Ny174:=am hy174
       clear hy174
       have H':=am H
       clear H
       try go_wp2
       have n0_:=am (Kd.S_drew HO_171000.out)
       have n1_:=am (qd BK169.out)
       have n2_:=am (qd BK170.out)
       have n3_:=am (pd HB.out)
       clear HO_171000
       clear BK169
       clear BK170
       clear HB
       have HO_171000:=n0_
       have BK169:=n1_
       have BK170:=n2_
       have HB:=n3_
       clear n0_ n1_ n2_ n3_
       refine rS (n:=8) (S:=fun w'=>w'.cell? ⟨gb170,0,none⟩=some (u171000)) (ds:=[7]) [(0,13),(2,15),(1,14),(3,0),(4,0),(5,0),(6,19),(7,0)] d3 rfl spec_l2Blank.tab5 spec_l2Blank.bits5 ((blk_cell BK170.out 0).trans rfl) (fun hHeld HT_ HW_=>?_)
       generalize wr.drew=w11 at HO_171000 BK169 BK170 HB hHeld ⊢
       refine rR ?_
       refine rO (N:=some 16) HT_ rfl rfl d3 d11 (fun K hK=>?_)
       refine Kd.R_make_step (Kd.int .u8) _ 5 d16 (N:=16) rfl 57 _ _ rfl a1 rfl rfl Try.underlying57 (.int .u8 0) 1 info5 rfl d11 d6 0 (ok:=fun _=>True) (okp:=fun _=>True) rfl (fun _ hk=>hk) trivial (od d1) (Nat.le_trans (Nat.mul_le_mul_right _ (od d1:a1.toNat≤281474976710656)) d6) (Below.refl _ _) (Nat.le_refl _) ?_
       intro v172 w12 ho13 hb hg_ hnew_
       clear hg_ hnew_
       (first|rw [← Ny171.out] at ho13|(simp only [Int.reduceToNat] at ho13;rw [← Ny171.out] at ho13))
       have n0_:=am (Kd.S_elder' (by (with_reducible repeat (first|apply Kd.S_alloc|apply Kd.S_drewN|apply Kd.S_drew));exact HO_171000.out) (Kd.R_base ho13) hb)
       have n1_:=am (Kd.R_lower ho13 (pz (by repeat (first|(with_reducible first|exact HB.out|apply pa|apply pb|apply pd|refine pt ?_ GE169.out|refine pt ?_ GE170.out)|exact HB.out))))
       have n2_:=am (qb (g:=gb169) (o:=.cells #[.slice none 0 0] 43 (0,0)) (by (with_reducible repeat (first|refine qn ?_ _|refine qd ?_|refine qa ?_ _));exact BK169.out) hb)
       have n3_:=am (qb (g:=gb170) (o:=.cells #[u171000] 43 (0,0)) (by (with_reducible repeat (first|refine qn ?_ _|refine qd ?_|refine qa ?_ _));exact BK170.out) hb)
       have n4_:=am (pu (by repeat (first|(with_reducible first|exact HB.out|apply pa|apply pb|apply pd|refine pt ?_ GE169.out|refine pt ?_ GE170.out)|exact HB.out)) hb)
       clear HO_171000
       clear BK169
       clear BK170
       clear HB
       have HO_171000:=n0_
       have HO173:=n1_
       have BK169:=n2_
       have BK170:=n3_
       have HB:=n4_
       clear n0_ n1_ n2_ n3_ n4_
       clear hb ho13
       obtain ⟨Ao15,co15,eo15⟩:=Kd.R_slice HO173.out
       (first|subst eo15|(injection eo15 with f1_ f2_ f3_;have f4_:=f1_.symm;have f5_:=f3_.symm;clear f1_ f2_ f3_;subst f4_;subst f5_))
       refine hK.out _ _ ((blk_cell BK170.out 0).trans rfl) (fun hHeld=>?_)
       clear hK K
       refine rN (a':=?_) ?_ ?_
       rotate_left
       ·show Act.put _ (some 16) _=_
        simp only [Act.put,q1,q2,q3,i64_w,i32_w]
        rfl
       refine rO (N:=some 17) HT_ rfl rfl d3 d11 (fun K hK=>?_)
       refine value_ (w1:=?_) (v:=?_) d16 rfl ?_ ?_
       rotate_left 2
       ·go_simp
        constructor
        ·rfl
        rfl
       refine hK.out _ _ ((blk_cell (qa BK170.out _) 0).trans rfl) (fun hHeld=>?_)
       clear hK K
       refine rN (a':=?_) ?_ ?_
       rotate_left
       ·show Act.put _ (some 17) _=_
        simp only [Act.put,q1,q2,q3,i64_w,i32_w]
        rfl
       refine rO (N:=some 18) HT_ rfl rfl d3 d11 (fun K hK=>?_)
       refine Kd.S_append_step (Kd.slice 5 (Kd.int .u8)) (w0:=w) w.heap.size d16 (.tmp 14) (.tmp 17) 37 57 (.slice none 0 0) 24 rfl Try.underlying37 info57 rfl d11 d6 u171000 x171000_1 y171 [.slice Ao15 y171.length co15] (fun _=>True) (fun k_=>some k_=(.slice Ao15 y171.length co15:Value).ownBlock) rfl rfl ?aP (fun k_ hk_=>((Kd.R_mono (ok':=fun k_=>((fun _=>True)) k_∧some k_ ≠ (u171000:Value).ownBlock) (Kd.R_apart' (HO173.out) (Kd.S_typed HO_171000.out) d11) (fun k_ hk=>⟨trivial,hk.2⟩))).1 k_ hk_.symm) ?aF ?aO ?aB ?aS ?aL ?_
       (case aP=>exact Kd.M_row (Kd.R_mono (Kd.R_tight rfl (Kd.R_mono (ok':=fun k_=>((fun _=>True)) k_∧some k_ ≠ (u171000:Value).ownBlock) (Kd.R_apart' (HO173.out) (Kd.S_typed HO_171000.out) d11) (fun k_ hk=>⟨trivial,hk.2⟩))) (fun _ h_=>h_)))
       (case aB=>exact (by repeat (first|(with_reducible first|exact HB.out|apply pa|apply pb|apply pd|refine pt ?_ GE169.out|refine pt ?_ GE170.out)|exact HB.out)))
       (case aF=>exact (fun _ _=>trivial))
       (case aO=>exact (by (with_reducible repeat (first|apply Kd.S_alloc|apply Kd.S_drewN|apply Kd.S_drew));exact Kd.S_mono HO_171000.out (fun k_ hk=>⟨trivial,fun e_=>hk.2 e_⟩)))
       (case aS=>exact (pz (by repeat (first|(with_reducible first|exact HB.out|apply pa|apply pb|apply pd|refine pt ?_ GE169.out|refine pt ?_ GE170.out)|exact HB.out))))
       (case aL=>have:=LMc10.out;omega)
       intro v175 w14 ho hb hg hat
       rw [← Ny174.out] at ho
       have n0_:=am (blk_grown (g:=gb169) (o:=.cells #[.slice none 0 0] 43 (0,0)) (by (with_reducible repeat (first|refine qn ?_ _|refine qd ?_|refine qa ?_ _));exact BK169.out) hg (Kd.S_ne HO_171000.out BK169.out d11))
       have n1_:=am (blk_grown (g:=gb170) (o:=.cells #[u171000] 43 (0,0)) (by (with_reducible repeat (first|refine qn ?_ _|refine qd ?_|refine qa ?_ _));exact BK170.out) hg (Kd.S_ne HO_171000.out BK170.out d11))
       have n2_:=am (hb)
       have n3_:=am (ho)
       clear BK169
       clear BK170
       clear HB
       clear HO_171000
       clear HO173
       have BK169:=n0_
       have BK170:=n1_
       have HB:=n2_
       have HO176:=n3_
       clear n0_ n1_ n2_ n3_
       clear ho hb hg hat
       obtain ⟨Ao16,co16,eo16⟩:=Kd.S_slice HO176.out
       (first|subst eo16|(injection eo16 with f1_ f2_ f3_;have f4_:=f1_.symm;have f5_:=f3_.symm;clear f1_ f2_ f3_;subst f4_;subst f5_))
       refine hK.out _ _ ((blk_cell BK170.out 0).trans rfl) (fun hHeld=>?_)
       clear hK K
       refine rN (a':=?_) ?_ ?_
       rotate_left
       ·show Act.put _ (some 18) _=_
        simp only [Act.put,q1,q2,q3,i64_w,i32_w]
        rfl
       refine rR ?_
       refine rL (N:=none) HT_ rfl rfl d3 d11 (fun K hK=>?_)
       have hs17:w14.cell? ⟨gb170,0,none⟩=some (u171000):=(blk_cell BK170.out 0).trans rfl
       have hfs17:=blk_frozen BK170.out 0
       have hns17_0:=NB169_170.out
       have hms17_0:=NB170_169.out
       refine skip_ (w1:=?_) d16 rfl ?_ ?_
       rotate_left
       ·go_simp
        rfl
       refine hK.out _ _ ?_
       clear hK K
       refine rD HT_ d3 ?_
       try go_wp2
       go_roundg k1
       case measure=>have:=HK1.out;omega
       case rel=>exact ⟨(wrap64 (x6_1+1)),(y174),(.slice Ao16 y174.length co16),d2,H',⟨d26⟩,⟨by (with_reducible repeat (first|apply Kd.S_alloc|apply Kd.S_drewN|apply Kd.S_drew));exact Kd.S_mono (Kd.S_far (p:=⟨gb170,0,none⟩) (Kd.S_types HO176.out BK170.out d11) (fun _ hk=>hk.2) (.slice Ao16 y174.length co16)) (fun _ hk=>trivial)⟩,⟨by (with_reducible repeat (first|refine qn ?_ _|refine qd ?_|refine qa ?_ _));refine blk_far ?_ NB169_170.out _;(with_reducible repeat (first|refine qn ?_ _|refine qd ?_|refine qa ?_ _));exact BK169.out⟩,⟨by (with_reducible repeat (first|refine qn ?_ _|refine qd ?_|refine qa ?_ _));refine blk_put (cs:=#[u171000]) ?_ 0 _ rfl;(with_reducible repeat (first|refine qn ?_ _|refine qd ?_|refine qa ?_ _));exact BK170.out⟩,⟨by repeat (first|(with_reducible first|exact HB.out|apply pa|apply pb|apply pd|refine pt ?_ GE169.out|refine pt ?_ GE170.out)|exact HB.out)⟩⟩
      rw [if_neg c10] at H
      exact absurd H d20
     rw [if_neg c9] at H
     exact absurd H d20
    rw [if_neg c8] at H
    exact absurd H d20
   rw [if_neg c7] at H
   have c7b0:decide (x6_1 < a0)=false:=decide_eq_false c7
   clear c7
   obtain rfl:=Option.some.inj H
   have hnb18:=NB170_169.out
   have hnc18:=NB169_170.out
   have hcz19_0:wr.cell? ⟨gb170,0,none⟩=some (u171000):=(blk_cell BK170.out 0).trans rfl
   have hfz19_0:=blk_frozen BK170.out 0
   obtain ⟨Ao20,co20,eo20⟩:=Kd.S_slice HO_171000.out
   subst eo20
   have hcz21_0:wr.cell? ⟨gb169,0,none⟩=some (.slice none 0 0):=(blk_cell BK169.out 0).trans rfl
   have hfz21_0:=blk_frozen BK169.out 0
   go_wp2
   refine bodyPost_ret (results_cell_row rfl _ _ gb169 43 #[.slice Ao20 x171000_1.length co20] (0,0) _ rfl (by (with_reducible repeat (first|refine qn ?_ _|refine qd ?_|refine qa ?_ _));refine blk_put (cs:=#[.slice none 0 0]) ?_ 0 _ rfl;(with_reducible repeat (first|refine qn ?_ _|refine qd ?_|refine qa ?_ _));exact BK169.out) Try.underlying43 rfl d3) rfl ?_
   exact ⟨_,d5,by (with_reducible repeat (first|apply Kd.S_alloc|apply Kd.S_drewN|apply Kd.S_drew));exact Kd.S_mono (Kd.S_far (p:=⟨gb169,0,none⟩) (Kd.S_types HO_171000.out BK169.out d11) (fun _ hk=>hk.2) (.slice Ao20 x171000_1.length co20)) (fun _ hk=>trivial),by repeat (first|(with_reducible first|exact HB.out|apply pa|apply pb|apply pd|refine pt ?_ GE169.out|refine pt ?_ GE170.out)|exact HB.out)⟩

def spec_l2Identity.l0:Nat→Int→Int→List (List Int)→Option ((List (List Int)))
 | 0,_,_,_=>none
 | k+1,x10,x11,x182000=>if x11 < x10 then (if 0≤x11 then (if x11 < (x182000.length:Int) then (if x11 < ((rd_L5 x182000 x11).length:Int) then (spec_l2Identity.l0 k x10 (wrap64 (x11+1)) (x182000.set (x11:Int).toNat ((rd_L5 x182000 x11).set (x11:Int).toNat 1))) else (none)) else (none)) else (none)) else (some x182000)
def spec_l2Identity.f (k:Nat) (a0:Int):Option ((List (List Int))):=(spec_l2Blank.f k a0 a0).bind fun t178=>(spec_l2Identity.l0 k (t178.length:Int) 0 t178)
theorem spec_l2Identity.mono_l:∀ k,(∀ y0 y1 y2,LeO (spec_l2Identity.l0 k y0 y1 y2) (spec_l2Identity.l0 (k+1) y0 y1 y2))
 | 0=>fun _ _ _ r h=>by simp [spec_l2Identity.l0] at h
 | k+1=>by
  have ih0:=spec_l2Identity.mono_l k
  intro y0 y1 y2
  unfold spec_l2Identity.l0
  repeat' first
  | (with_reducible exact ih0 _ _ _)
  | (with_reducible exact spec_l2Blank.mono _ _ _)
  |(with_reducible exact LeO.refl _)|(with_reducible exact LeO.none _)|(with_reducible refine LeO.ite ?_ ?_)|(with_reducible refine LeO.bind ?_ (fun _=>?_))|exact ih0 _ _ _|exact spec_l2Blank.mono _ _ _|exact LeO.none _|refine LeO.ite ?_ ?_|refine LeO.bind ?_ (fun _=>?_)
theorem spec_l2Identity.mono:∀ a0 k,LeO (spec_l2Identity.f k a0) (spec_l2Identity.f (k+1) a0):=by
 intro a0 k
 have ih0:=spec_l2Identity.mono_l k
 unfold spec_l2Identity.f
 repeat' first
   | (with_reducible exact ih0 _ _ _)
   | (with_reducible exact spec_l2Blank.mono _ _ _)
   |(with_reducible exact LeO.refl _)|(with_reducible exact LeO.none _)|(with_reducible refine LeO.ite ?_ ?_)|(with_reducible refine LeO.bind ?_ (fun _=>?_))|exact ih0 _ _ _|exact spec_l2Blank.mono _ _ _|exact LeO.none _|refine LeO.ite ?_ ?_|refine LeO.bind ?_ (fun _=>?_)
theorem spec_l2Identity.calls (k:Nat) (a0:Int) (r:List (List Int)) (w:World) (h:spec_l2Identity.f k a0=some r) :
  Calls Try.prog 176 #[.int .i64 a0] w fun e w'=>∃ v0_:Value,e = .returned (.agg #[v0_])∧Kd.S (Kd.slice 5 (Kd.int .u8)) 57 w' w.heap.size (fun _=>True) v0_ r∧Below w.heap.size w w':=by
 have hu43:=Try.underlying43
 have HB:=am (Below.refl w.heap.size w)
 have H:((spec_l2Blank.f k a0 a0).bind fun t178=>(spec_l2Identity.l0 k (t178.length:Int) 0 t178))=some r:=h
 clear h
 replace H:=Option.bind_eq_some_iff.mp H
 obtain ⟨t178,A20,H⟩:=H
 replace H:(spec_l2Identity.l0 k (t178.length:Int) 0 t178)=some r:=H
 have A2:=am A20
 clear A20
 have H':=am H
 clear H
 go_enter Try.func176,Try.ntmps176
 go_wp2_with (first|((with_reducible refine gate_dst (N:=2) rfl ?_);refine box_event ?hg (N:=2) ?hd (cs:=#[.slice none 0 0]) (t:=43) ?hr ?_;(case hd=>rfl);(case hg=>rfl);(case hr=>first|(go_simp;done)|(go_simp;rfl));intro gb177 hg w3 hbox hb;have n0_:=am (pu d0 hb);have n1_:=am (hbox);have n2_:=am ((by rw [hg];exact (pz d0):w.heap.size≤gb177));have n3_:=n2_;clear HB;have HB:=n0_;have BK177:=n1_;have GW177:=n2_;have GE177:=n3_;clear n0_ n1_ n2_ n3_;clear hb hbox hg)|((with_reducible refine gate_callee (f:=172) rfl ?_);refine goesL_ (some 7) rfl rfl Try.func172 d3 rfl #[.int .i64 a0, .int .i64 a0] rfl d4 ?_;(with_reducible refine (spec_l2Blank.calls k a0 a0 t178 _ A2.out).mono ?_);rintro e w4 ⟨v179,rfl,ho0,hb⟩;refine ⟨_,rfl,?_⟩;have n0_:=am (Kd.S_lower ho0 (pz (by repeat (first|(with_reducible first|exact HB.out|apply pa|apply pb|apply pd|refine pt ?_ GE177.out)|exact HB.out))));have n1_:=am (qb (g:=gb177) (o:=.cells #[.slice none 0 0] 43 (0,0)) (by (with_reducible repeat (first|refine qn ?_ _|refine qd ?_|refine qa ?_ _));exact BK177.out) hb);have n2_:=am (pu (by repeat (first|(with_reducible first|exact HB.out|apply pa|apply pb|apply pd|refine pt ?_ GE177.out)|exact HB.out)) hb);clear BK177;clear HB;have HO180:=n0_;have BK177:=n1_;have HB:=n2_;clear n0_ n1_ n2_;(try clear hb);(try clear hb2);(try clear hk);(try clear hi);(try clear ho0))|((with_reducible refine gate_dst (N:=3) rfl ?_);refine box_event ?hg (N:=3) ?hd (cs:=#[.slice none 0 0]) (t:=43) ?hr ?_;(case hd=>rfl);(case hg=>rfl);(case hr=>first|(go_simp;done)|(go_simp;rfl));intro gb181 hg w5 hbox hb;have n0_:=am (Kd.S_below (by (with_reducible repeat (first|apply Kd.S_alloc|apply Kd.S_drewN|apply Kd.S_drew));exact HO180.out) hb);have n1_:=am (qb (g:=gb177) (o:=.cells #[.slice none 0 0] 43 (0,0)) (by (with_reducible repeat (first|refine qn ?_ _|refine qd ?_|refine qa ?_ _));exact BK177.out) hb);have n2_:=am (pu (by repeat (first|(with_reducible first|exact HB.out|apply pa|apply pb|apply pd|refine pt ?_ GE177.out)|exact HB.out)) hb);have n3_:=am (hbox);have n4_:=am ((by rw [hg];exact (pz (by repeat (first|(with_reducible first|exact HB.out|apply pa|apply pb|apply pd|refine pt ?_ GE177.out)|exact HB.out))):w.heap.size≤gb181));have n5_:=n4_;have n6_:=am ((by rw [hg];exact Nat.ne_of_lt (blk_lt (g:=gb177) (o:=.cells #[.slice none 0 0] 43 (0,0)) (by (with_reducible repeat (first|refine qn ?_ _|refine qd ?_|refine qa ?_ _));exact BK177.out)):gb177 ≠ gb181));have n7_:=am ((by rw [hg];exact Nat.ne_of_gt (blk_lt (g:=gb177) (o:=.cells #[.slice none 0 0] 43 (0,0)) (by (with_reducible repeat (first|refine qn ?_ _|refine qd ?_|refine qa ?_ _));exact BK177.out)):gb181 ≠ gb177));clear HO180;clear BK177;clear HB;have HO180:=n0_;have BK177:=n1_;have HB:=n2_;have BK181:=n3_;have GW181:=n4_;have GE181:=n5_;have NB177_181:=n6_;have NB181_177:=n7_;clear n0_ n1_ n2_ n3_ n4_ n5_ n6_ n7_;clear hb hbox hg;obtain ⟨Ao6,co6,eo6⟩:=Kd.S_slice HO180.out;subst eo6;have hnb7:=NB181_177.out;have hnc7:=NB177_181.out;have hcz8_0:w5.cell? ⟨gb181,0,none⟩=some (.slice none 0 0):=(blk_cell BK181.out 0).trans rfl;have hfz8_0:=blk_frozen BK181.out 0))
 go_loopg [11] k (fun kq v11 w'=>∃ (x11_1:Int) (x182000_1:List (List Int)) (u182000:Value),v11 = .int .i64 x11_1∧Aside0 (spec_l2Identity.l0 kq (t178.length:Int) x11_1 x182000_1=some r)∧Aside0 (kq≤k)∧Aside0 (Kd.S (Kd.slice 5 (Kd.int .u8)) 57 w' w.heap.size (fun _=>True) u182000 x182000_1)∧Aside0 (w'.heap[gb177]? = some (.cells #[(.slice none 0 0)] 43 (0,0)))∧Aside0 (w'.heap[gb181]? = some (.cells #[u182000] 43 (0,0)))∧Aside0 (Below w.heap.size w w'))
 case atStart=>exact ⟨(0),(t178),(.slice Ao6 t178.length co6),d2,H',⟨Nat.le_refl _⟩,⟨by (with_reducible repeat (first|apply Kd.S_alloc|apply Kd.S_drewN|apply Kd.S_drew));exact Kd.S_mono (Kd.S_far (p:=⟨gb181,0,none⟩) (Kd.S_types HO180.out BK181.out d11) (fun _ hk=>hk.2) (.slice Ao6 t178.length co6)) (fun _ hk=>trivial)⟩,⟨by (with_reducible repeat (first|refine qn ?_ _|refine qd ?_|refine qa ?_ _));refine blk_far ?_ NB177_181.out _;(with_reducible repeat (first|refine qn ?_ _|refine qd ?_|refine qa ?_ _));exact BK177.out⟩,⟨by (with_reducible repeat (first|refine qn ?_ _|refine qd ?_|refine qa ?_ _));refine blk_put (cs:=#[.slice none 0 0]) ?_ 0 _ rfl;(with_reducible repeat (first|refine qn ?_ _|refine qd ?_|refine qa ?_ _));exact BK181.out⟩,⟨by repeat (first|(with_reducible first|exact HB.out|apply pa|apply pb|apply pd|refine pt ?_ GE177.out|refine pt ?_ GE181.out)|exact HB.out)⟩⟩
 case round =>
  clear H'
  try clear c1
  try clear p2
  try clear c7
  try clear hcz8_0
  try clear hfz8_0
  obtain ⟨x11_1,x182000_1,u182000,rfl,HA,HK1,HO_182000,BK177,BK181,HB⟩:=hrel
  cases gk with
  | zero=>exact absurd HA.out (by simp [spec_l2Identity.l0])
  | succ k1 =>
   have H:=HA.out
   clear HA
   simp only [spec_l2Identity.l0] at H
   by_cases c9:x11_1 < (t178.length:Int)
   ·rw [if_pos c9] at H
    have c9b0:decide (x11_1 < (t178.length:Int))=true:=decide_eq_true c9
    clear c9
    by_cases c10:0≤x11_1
    ·rw [if_pos c10] at H
     have c10b0:decide (0≤x11_1)=true:=decide_eq_true c10
     clear c10
     by_cases c11:x11_1 < (x182000_1.length:Int)
     ·rw [if_pos c11] at H
      have c11b0:decide (x11_1 < (x182000_1.length:Int))=true:=decide_eq_true c11
      clear c11
      by_cases c12:x11_1 < ((rd_L5 x182000_1 x11_1).length:Int)
      ·rw [if_pos c12] at H
       have c12b0:decide (x11_1 < ((rd_L5 x182000_1 x11_1).length:Int))=true:=decide_eq_true c12
       clear c12
       obtain ⟨y183,hy183⟩:∃ y_:List Int,y_=((rd_L5 x182000_1 x11_1).set (x11_1:Int).toNat 1):=⟨_,rfl⟩
       replace H:(spec_l2Identity.l0 k1 (t178.length:Int) (wrap64 (x11_1+1)) (x182000_1.set (x11_1:Int).toNat y183))=some r:=by first|(rw [hy183];with_reducible exact H)|(have H2_:=(Option.bind_some _ _).symm.trans H;rw [hy183];with_reducible exact H2_)|(have H2_:=(Option.bind_some _ _).symm.trans H;with_reducible exact H2_)|with_reducible exact H|(rw [hy183];exact H)|exact H
       have Ny183:=am hy183
       clear hy183
       obtain ⟨y185,hy185⟩:∃ y_:List (List Int),y_=(x182000_1.set (x11_1:Int).toNat y183):=⟨_,rfl⟩
       replace H:(spec_l2Identity.l0 k1 (t178.length:Int) (wrap64 (x11_1+1)) y185)=some r:=by first|(rw [hy185];with_reducible exact H)|(have H2_:=(Option.bind_some _ _).symm.trans H;rw [hy185];with_reducible exact H2_)|(have H2_:=(Option.bind_some _ _).symm.trans H;with_reducible exact H2_)|with_reducible exact H|(rw [hy185];exact H)|exact H
       have Ny185:=am hy185
       clear hy185
       have H':=am H
       clear H
       have hnb14:=NB181_177.out
       have hnc14:=NB177_181.out
       have hcz15_0:wr.cell? ⟨gb181,0,none⟩=some (u182000):=(blk_cell BK181.out 0).trans rfl
       have hfz15_0:=blk_frozen BK181.out 0
       obtain ⟨Ao16,co16,eo16⟩:=Kd.S_slice HO_182000.out
       subst eo16
       have p182:0≤(x11_1:Int):=od d1
       have q182:x11_1 < (x182000_1.length:Int):=od d1
       obtain ⟨ad182,A182_0,c182_0,e182,hx182_0,hl182_0,hi182_0⟩:=at_L5 (Kd.S_reads' HO_182000.out).2.2 x11_1 p182 q182
       cases e182
       obtain ⟨ce182,hce182,hMe182,hcc182⟩:=Kd.S_get HO_182000.out [] x11_1 p182 (by first|exact q182|exact od d1|(have e_:=(Kd.S_reads' HO_182000.out).1;omega))
       obtain ⟨ve182_0,rfl,ge182_0⟩:=hMe182
       have hv182_0:=hcc182 0 _ rfl
       rw [Nat.add_zero,show ((Kd.slice 5 (Kd.int .u8))).sz=1 from rfl,Nat.mul_one] at hv182_0
       replace hv182_0:=Option.some.inj (hv182_0.symm.trans hx182_0)
       rw [hv182_0] at ge182_0
       have HL182_0:=am (show Kd.R (Kd.int .u8) 5 _ _ _ _ (rd_L5 x182000_1 x11_1) from ge182_0)
       clear hv182_0 ge182_0
       have HX182_0:=am hx182_0
       clear hcc182 hce182
       have HR182_0:=am hi182_0
       have HC182_0:=am hl182_0
       clear hi182_0 hl182_0
       replace p182:=eq_true p182
       replace q182:=eq_true q182
       have p13:0≤(x11_1:Int):=od d1
       have q13:(x11_1:Int) < (((rd_L5 x182000_1 x11_1).length:Int):Int):=od d1
       obtain ⟨go13,co13,eo13,gb13,gl13,cl13,HG13⟩:=Kd.R_form HL182_0.out d6
       (first|cases eo13|(injection eo13 with ea_ en_ ec_;(first|subst ea_|(injection ea_ with ea_;subst ea_));subst ec_;clear en_))
       have GB13:=am gb13
       have GG13:=am HG13
       clear gb13 gl13 HG13
       obtain ⟨hx13_0,hf13_0⟩:=Kd.R_celln 0 HL182_0.out (x11_1:Int) p13 q13
       replace p13:=eq_true p13
       replace q13:=eq_true q13
       have hq17:(x11_1:Int) < (x182000_1.length:Int):=(by have h_:(x11_1:Int) < ((x182000_1.length:Int):Int):=od d1;first|exact h_|(have e_:=(Kd.S_reads' HO_182000.out).1;omega)|simpa only [List.length_set,List.length_set] using h_)
       obtain ⟨oki17,ce17,hcl17,hM17,hcc17,hok17,hbk17⟩:=Kd.S_borrow HO_182000.out [] (x11_1:Int) (od d1) hq17
       obtain ⟨ve17_0,rfl,ge17_0⟩:=hM17
       have hv17:=hcc17 0 _ rfl
       rw [Nat.add_zero,show ((Kd.slice 5 (Kd.int .u8))).sz=1 from rfl,Nat.mul_one] at hv17
       replace hv17:=Option.some.inj (hv17.symm.trans HX182_0.out)
       subst hv17
       clear hcc17 hcl17
       replace ge17_0:=(show Kd.R (Kd.int .u8) 5 _ _ _ _ (rd_L5 x182000_1 x11_1) from ge17_0)
       have HP17:=Kd.R_putg ge17_0 (x11_1:Int) 1
       go_wp2_with (first|((with_reducible refine gate_store (t:=5) (p:=20) rfl ?_);refine store_event (t:=5) (p:=20) (v:=?vo_w18) (w1:=(wr.setCell ⟨go13,(x11_1:Int).toNat,none⟩ (.int .u8 1))) ?hg ?ho ?hn ?hr ?_;(case ho=>rfl);(case hg=>rfl);(case hn=>rfl);(case hr=>first|(go_simp;done)|(go_simp;rfl));intro w18 hw;have hg:wr.grownBy w18 (some go13):=(by rw [hw];exact HP17.2);have hz_:Kd.R (Kd.int .u8) 5 w18 w.heap.size oki17 (.slice (some ⟨go13,0,none⟩) (rd_L5 x182000_1 x11_1).length c182_0) y183:=(by rw [hw,Ny183.out];exact HP17.1);have hp_:Kd.S (Kd.slice 5 (Kd.int .u8)) 57 w18 w.heap.size (fun _=>True) (.slice (some ad182) x182000_1.length co16) y185:=(by rw [Ny185.out];exact hbk17 hg (fun k_ e_=>by injection e_ with e_;subst e_;exact ge17_0.1 _ rfl) (Kd.M_row hz_));have hm_:=Kd.R_mono hz_ hok17;clear HP17 hbk17;have n0_:=am (hp_);have n1_:=am (blk_grown (g:=gb177) (o:=.cells #[.slice none 0 0] 43 (0,0)) (by (with_reducible repeat (first|refine qn ?_ _|refine qd ?_|refine qa ?_ _));exact BK177.out) hg (Kd.R_ne HL182_0.out BK177.out d11));have n2_:=am (blk_grown (g:=gb181) (o:=.cells #[.slice (some ad182) x182000_1.length co16] 43 (0,0)) (by (with_reducible repeat (first|refine qn ?_ _|refine qd ?_|refine qa ?_ _));exact BK181.out) hg (Kd.R_ne HL182_0.out BK181.out d11));have n3_:=am ((by rw [hw];exact pt (HB.out) GB13.out:Below w.heap.size w w18));have n4_:=am (hm_);have n5_:=am ((Kd.R_reads' hm_).2.1);clear HO_182000;clear BK177;clear BK181;clear HB;clear HL182_0;have HO_182000:=n0_;have BK177:=n1_;have BK181:=n2_;have HB:=n3_;have HL186:=n4_;have HC184:=n5_;clear n0_ n1_ n2_ n3_ n4_ n5_;clear hg hw hp_ hz_ hm_ hok17))
       go_roundg k1
       case measure=>have:=HK1.out;omega
       case rel=>exact ⟨(wrap64 (x11_1+1)),(y185),(.slice (some ad182) x182000_1.length co16),d2,H',⟨d26⟩,⟨by (with_reducible repeat (first|apply Kd.S_alloc|apply Kd.S_drewN|apply Kd.S_drew));exact HO_182000.out⟩,⟨by (with_reducible repeat (first|refine qn ?_ _|refine qd ?_|refine qa ?_ _));exact BK177.out⟩,⟨by (with_reducible repeat (first|refine qn ?_ _|refine qd ?_|refine qa ?_ _));exact BK181.out⟩,⟨by repeat (first|(with_reducible first|exact HB.out|apply pa|apply pb|apply pd|refine pt ?_ GE177.out|refine pt ?_ GE181.out)|exact HB.out)⟩⟩
      rw [if_neg c12] at H
      exact absurd H d20
     rw [if_neg c11] at H
     exact absurd H d20
    rw [if_neg c10] at H
    exact absurd H d20
   rw [if_neg c9] at H
   have c9b0:decide (x11_1 < (t178.length:Int))=false:=decide_eq_false c9
   clear c9
   obtain rfl:=Option.some.inj H
   have hnb19:=NB181_177.out
   have hnc19:=NB177_181.out
   have hcz20_0:wr.cell? ⟨gb181,0,none⟩=some (u182000):=(blk_cell BK181.out 0).trans rfl
   have hfz20_0:=blk_frozen BK181.out 0
   obtain ⟨Ao21,co21,eo21⟩:=Kd.S_slice HO_182000.out
   subst eo21
   have hcz22_0:wr.cell? ⟨gb177,0,none⟩=some (.slice none 0 0):=(blk_cell BK177.out 0).trans rfl
   have hfz22_0:=blk_frozen BK177.out 0
   go_wp2
   refine bodyPost_ret (results_cell_row rfl _ _ gb177 43 #[.slice Ao21 x182000_1.length co21] (0,0) _ rfl (by (with_reducible repeat (first|refine qn ?_ _|refine qd ?_|refine qa ?_ _));refine blk_put (cs:=#[.slice none 0 0]) ?_ 0 _ rfl;(with_reducible repeat (first|refine qn ?_ _|refine qd ?_|refine qa ?_ _));exact BK177.out) Try.underlying43 rfl d3) rfl ?_
   exact ⟨_,d5,by (with_reducible repeat (first|apply Kd.S_alloc|apply Kd.S_drewN|apply Kd.S_drew));exact Kd.S_mono (Kd.S_far (p:=⟨gb177,0,none⟩) (Kd.S_types HO_182000.out BK177.out d11) (fun _ hk=>hk.2) (.slice Ao21 x182000_1.length co21)) (fun _ hk=>trivial),by repeat (first|(with_reducible first|exact HB.out|apply pa|apply pb|apply pd|refine pt ?_ GE177.out|refine pt ?_ GE181.out)|exact HB.out)⟩

end Go.Proofs.Ytajikfnpcobnpaa.PFnExactCheckShards
-- HALVED
-- SQUEEZED
-- SQUEEZED2
-- SQUEEZED3
-- SQUEEZED4
-- SQUEEZED5
-- SQUEEZED6
