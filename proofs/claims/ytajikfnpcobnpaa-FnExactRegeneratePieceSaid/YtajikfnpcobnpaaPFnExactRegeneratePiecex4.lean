-- Laid by a program of this session.
import Derived.Test.YtajikfnpcobnpaaPFnExactRegeneratePiecex0
namespace Go.Proofs.Ytajikfnpcobnpaa.PFnExactRegeneratePiece
open Go.RowKit Go.Proofs.YtajikfnpcobnpaaW.PrintWords Go.Proofs.YtajikfnpcobnpaaW.PrintLast Go.Proofs.YtajikfnpcobnpaaW.PrintMore
attribute [local go_sem] max2_int min2_int max_two min_two max_three min_three max_four min_four   -- for this text's walks alone
set_option linter.unusedVariables false
set_option maxHeartbeats 8000000
set_option maxRecDepth 100000
set_option linter.unusedSimpArgs false

def spec_l2Blank.l0:Nat→Int→Int→Int→List (List Int)→Option ((List (List Int)))
 | 0,_,_,_,_=>none
 | k+1,x0,x1,x6,x131000=>if x6 < x0 then (if 0≤x1 then (if (x1:Int).toNat≤281474976710656 then (if x131000.length < 5864062014805 then (spec_l2Blank.l0 k x0 x1 (wrap64 (x6+1)) (x131000 ++ [(List.replicate (x1:Int).toNat 0)])) else (none)) else (none)) else (none)) else (some x131000)
def spec_l2Blank.f (k:Nat) (a0:Int) (a1:Int):Option ((List (List Int))):=spec_l2Blank.l0 k a0 a1 0 ([]:List (List Int))
theorem spec_l2Blank.mono_l:∀ k,(∀ y0 y1 y2 y3,LeO (spec_l2Blank.l0 k y0 y1 y2 y3) (spec_l2Blank.l0 (k+1) y0 y1 y2 y3))
 | 0=>fun _ _ _ _ r h=>by simp [spec_l2Blank.l0] at h
 | k+1=>by
  have ih0:=spec_l2Blank.mono_l k
  intro y0 y1 y2 y3
  unfold spec_l2Blank.l0
  repeat' first
  | (with_reducible exact ih0 _ _ _ _)
  |(with_reducible exact LeO.refl _)|(with_reducible exact LeO.none _)|(with_reducible refine LeO.ite ?_ ?_)|(with_reducible refine LeO.bind ?_ (fun _=>?_))|exact ih0 _ _ _ _|exact LeO.none _|refine LeO.ite ?_ ?_|refine LeO.bind ?_ (fun _=>?_)
theorem spec_l2Blank.mono:∀ a0 a1 k,LeO (spec_l2Blank.f k a0 a1) (spec_l2Blank.f (k+1) a0 a1):=by
 intro a0 a1 k
 have ih0:=spec_l2Blank.mono_l k
 unfold spec_l2Blank.f
 repeat' first
   | (with_reducible exact ih0 _ _ _ _)
   |(with_reducible exact LeO.refl _)|(with_reducible exact LeO.none _)|(with_reducible refine LeO.ite ?_ ?_)|(with_reducible refine LeO.bind ?_ (fun _=>?_))|exact ih0 _ _ _ _|exact LeO.none _|refine LeO.ite ?_ ?_|refine LeO.bind ?_ (fun _=>?_)
def spec_l2Blank.T5:Bool × List (List Nat × List Nat):=(true,[([],[]),([0],[0]),([],[]),([2,2],[2]),([3],[3]),([1,4],[1,4]),([0,1,2,3,4,5],[]),([6,5,5,0,1,2,3,4,5],[5,6])])
def spec_l2Blank.B5:List Nat:=[0,1,0,4,12,31,63,127]
theorem spec_l2Blank.tab5:rtab .any (opsOf Try.f172 5)=spec_l2Blank.T5:=by kernel_rfl
theorem spec_l2Blank.bits5:waitsOk spec_l2Blank.T5.2 spec_l2Blank.B5=true:=by kernel_rfl
theorem spec_l2Blank.calls (k:Nat) (a0:Int) (a1:Int) (r:List (List Int)) (w:World) (h:spec_l2Blank.f k a0 a1=some r) :
  Calls Try.prog 172 #[.int .i64 a0, .int .i64 a1] w fun e w'=>∃ v0_:Value,e = .returned (.agg #[v0_])∧Kd.S (Kd.slice 5 (Kd.int .u8)) 57 w' w.heap.size (fun _=>True) v0_ r∧Below w.heap.size w w':=by
 have hu43:=Try.underlying43
 have HB:=am (Below.refl w.heap.size w)
 have H:(spec_l2Blank.l0 k a0 a1 0 ([]:List (List Int)))=some r:=h
 clear h
 have H':=am H
 clear H
 go_enter Try.func172,Try.ntmps172
 go_wp2_with (first|((with_reducible refine gate_dst (N:=4) rfl ?_);refine box_event ?hg (N:=4) ?hd (cs:=#[.slice none 0 0]) (t:=43) ?hr ?_;(case hd=>rfl);(case hg=>rfl);(case hr=>first|(go_simp;done)|(go_simp;rfl));intro gb129 hg w3 hbox hb;have n0_:=am (pu d0 hb);have n1_:=am (hbox);have n2_:=am ((by rw [hg];exact (pz d0):w.heap.size≤gb129));have n3_:=n2_;clear HB;have HB:=n0_;have BK129:=n1_;have GW129:=n2_;have GE129:=n3_;clear n0_ n1_ n2_ n3_;clear hb hbox hg)|((with_reducible refine gate_dst (N:=5) rfl ?_);refine box_event ?hg (N:=5) ?hd (cs:=#[.slice none 0 0]) (t:=43) ?hr ?_;(case hd=>rfl);(case hg=>rfl);(case hr=>first|(go_simp;done)|(go_simp;rfl));intro gb130 hg w4 hbox hb;have n0_:=am (qb (g:=gb129) (o:=.cells #[.slice none 0 0] 43 (0,0)) (by (with_reducible repeat (first|refine qn ?_ _|refine qd ?_|refine qa ?_ _));exact BK129.out) hb);have n1_:=am (pu (by repeat (first|(with_reducible first|exact HB.out|apply pa|apply pb|apply pd|refine pt ?_ GE129.out)|exact HB.out)) hb);have n2_:=am (hbox);have n3_:=am ((by rw [hg];exact (pz (by repeat (first|(with_reducible first|exact HB.out|apply pa|apply pb|apply pd|refine pt ?_ GE129.out)|exact HB.out))):w.heap.size≤gb130));have n4_:=n3_;have n5_:=am ((by rw [hg];exact Nat.ne_of_lt (blk_lt (g:=gb129) (o:=.cells #[.slice none 0 0] 43 (0,0)) (by (with_reducible repeat (first|refine qn ?_ _|refine qd ?_|refine qa ?_ _));exact BK129.out)):gb129 ≠ gb130));have n6_:=am ((by rw [hg];exact Nat.ne_of_gt (blk_lt (g:=gb129) (o:=.cells #[.slice none 0 0] 43 (0,0)) (by (with_reducible repeat (first|refine qn ?_ _|refine qd ?_|refine qa ?_ _));exact BK129.out)):gb130 ≠ gb129));clear BK129;clear HB;have BK129:=n0_;have HB:=n1_;have BK130:=n2_;have GW130:=n3_;have GE130:=n4_;have NB129_130:=n5_;have NB130_129:=n6_;clear n0_ n1_ n2_ n3_ n4_ n5_ n6_;clear hb hbox hg;have hnb5:=NB130_129.out;have hnc5:=NB129_130.out;have hcz6_0:w4.cell? ⟨gb130,0,none⟩=some (.slice none 0 0):=(blk_cell BK130.out 0).trans rfl;have hfz6_0:=blk_frozen BK130.out 0))
 go_loopg [6] k (fun kq v6 w'=>∃ (x6_1:Int) (x131000_1:List (List Int)) (u131000:Value),v6 = .int .i64 x6_1∧Aside0 (spec_l2Blank.l0 kq a0 a1 x6_1 x131000_1=some r)∧Aside0 (kq≤k)∧Aside0 (Kd.S (Kd.slice 5 (Kd.int .u8)) 57 w' w.heap.size (fun _=>True) u131000 x131000_1)∧Aside0 (w'.heap[gb129]? = some (.cells #[(.slice none 0 0)] 43 (0,0)))∧Aside0 (w'.heap[gb130]? = some (.cells #[u131000] 43 (0,0)))∧Aside0 (Below w.heap.size w w'))
 case atStart=>exact ⟨(0),(([]:List (List Int))),(.slice none 0 0),d4,H',⟨Nat.le_refl _⟩,⟨d55⟩,⟨by (with_reducible repeat (first|refine qn ?_ _|refine qd ?_|refine qa ?_ _));refine blk_far ?_ NB129_130.out _;(with_reducible repeat (first|refine qn ?_ _|refine qd ?_|refine qa ?_ _));exact BK129.out⟩,⟨by (with_reducible repeat (first|refine qn ?_ _|refine qd ?_|refine qa ?_ _));refine blk_put (cs:=#[.slice none 0 0]) ?_ 0 _ rfl;(with_reducible repeat (first|refine qn ?_ _|refine qd ?_|refine qa ?_ _));exact BK130.out⟩,⟨by repeat (first|(with_reducible first|exact HB.out|apply pa|apply pb|apply pd|refine pt ?_ GE129.out|refine pt ?_ GE130.out)|exact HB.out)⟩⟩
 case round =>
  clear H'
  try clear c1
  try clear p2
  try clear c5
  try clear hcz6_0
  try clear hfz6_0
  obtain ⟨x6_1,x131000_1,u131000,rfl,HA,HK1,HO_131000,BK129,BK130,HB⟩:=hrel
  cases gk with
  | zero=>exact absurd HA.out (by simp [spec_l2Blank.l0])
  | succ k1 =>
   have H:=HA.out
   clear HA
   simp only [spec_l2Blank.l0] at H
   by_cases c7:x6_1 < a0
   ·rw [if_pos c7] at H
    have c7b0:decide (x6_1 < a0)=true:=decide_eq_true c7
    clear c7
    by_cases c8:0≤a1
    ·rw [if_pos c8] at H
     have c8b0:=eq_true c8
     have c8b1:decide (0≤a1)=true:=decide_eq_true c8
     clear c8
     by_cases c9:(a1:Int).toNat≤281474976710656
     ·rw [if_pos c9] at H
      have c9b0:=eq_true c9
      have c9b1:decide ((a1:Int).toNat≤281474976710656)=true:=decide_eq_true c9
      clear c9
      obtain ⟨y131,hy131⟩:∃ y_:List Int,y_=(List.replicate (a1:Int).toNat 0):=⟨_,rfl⟩
      replace H:(if x131000_1.length < 5864062014805 then (spec_l2Blank.l0 k1 a0 a1 (wrap64 (x6_1+1)) (x131000_1 ++ [y131])) else (none))=some r:=by first|(rw [hy131];with_reducible exact H)|(have H2_:=(Option.bind_some _ _).symm.trans H;rw [hy131];with_reducible exact H2_)|(have H2_:=(Option.bind_some _ _).symm.trans H;with_reducible exact H2_)|with_reducible exact H|(rw [hy131];exact H)|exact H
      have Ny131:=am hy131
      clear hy131
      by_cases c10:x131000_1.length < 5864062014805
      ·rw [if_pos c10] at H
       have LMc10:=am c10
       clear c10
       obtain ⟨y134,hy134⟩:∃ y_:List (List Int),y_=(x131000_1 ++ [y131]):=⟨_,rfl⟩
       replace H:(spec_l2Blank.l0 k1 a0 a1 (wrap64 (x6_1+1)) y134)=some r:=by first|(rw [hy134];with_reducible exact H)|(have H2_:=(Option.bind_some _ _).symm.trans H;rw [hy134];with_reducible exact H2_)|(have H2_:=(Option.bind_some _ _).symm.trans H;with_reducible exact H2_)|with_reducible exact H|(rw [hy134];exact H)|exact H
       have Ny134:=am hy134
       clear hy134
       have H':=am H
       clear H
       try go_wp2
       have n0_:=am (Kd.S_drew HO_131000.out)
       have n1_:=am (qd BK129.out)
       have n2_:=am (qd BK130.out)
       have n3_:=am (pd HB.out)
       clear HO_131000
       clear BK129
       clear BK130
       clear HB
       have HO_131000:=n0_
       have BK129:=n1_
       have BK130:=n2_
       have HB:=n3_
       clear n0_ n1_ n2_ n3_
       refine rS (n:=8) (S:=fun w'=>w'.cell? ⟨gb130,0,none⟩=some (u131000)) (ds:=[7]) [(0,13),(2,15),(1,14),(3,0),(4,0),(5,0),(6,19),(7,0)] d3 rfl spec_l2Blank.tab5 spec_l2Blank.bits5 ((blk_cell BK130.out 0).trans rfl) (fun hHeld HT_ HW_=>?_)
       generalize wr.drew=w11 at HO_131000 BK129 BK130 HB hHeld ⊢
       refine rR ?_
       refine rO (N:=some 16) HT_ rfl rfl d3 d8 (fun K hK=>?_)
       refine Kd.R_make_step (Kd.int .u8) _ 5 d20 (N:=16) rfl 57 _ _ rfl a1 rfl rfl Try.underlying57 (.int .u8 0) 1 info5 rfl d8 d15 0 (ok:=fun _=>True) (okp:=fun _=>True) rfl (fun _ hk=>hk) trivial (od d2) (Nat.le_trans (Nat.mul_le_mul_right _ (od d2:a1.toNat≤281474976710656)) d15) (Below.refl _ _) (Nat.le_refl _) ?_
       intro v132 w12 ho13 hb hg_ hnew_
       clear hg_ hnew_
       (first|rw [← Ny131.out] at ho13|(simp only [Int.reduceToNat] at ho13;rw [← Ny131.out] at ho13))
       have n0_:=am (Kd.S_elder' (by (with_reducible repeat (first|apply Kd.S_alloc|apply Kd.S_drewN|apply Kd.S_drew));exact HO_131000.out) (Kd.R_base ho13) hb)
       have n1_:=am (Kd.R_lower ho13 (pz (by repeat (first|(with_reducible first|exact HB.out|apply pa|apply pb|apply pd|refine pt ?_ GE129.out|refine pt ?_ GE130.out)|exact HB.out))))
       have n2_:=am (qb (g:=gb129) (o:=.cells #[.slice none 0 0] 43 (0,0)) (by (with_reducible repeat (first|refine qn ?_ _|refine qd ?_|refine qa ?_ _));exact BK129.out) hb)
       have n3_:=am (qb (g:=gb130) (o:=.cells #[u131000] 43 (0,0)) (by (with_reducible repeat (first|refine qn ?_ _|refine qd ?_|refine qa ?_ _));exact BK130.out) hb)
       have n4_:=am (pu (by repeat (first|(with_reducible first|exact HB.out|apply pa|apply pb|apply pd|refine pt ?_ GE129.out|refine pt ?_ GE130.out)|exact HB.out)) hb)
       clear HO_131000
       clear BK129
       clear BK130
       clear HB
       have HO_131000:=n0_
       have HO133:=n1_
       have BK129:=n2_
       have BK130:=n3_
       have HB:=n4_
       clear n0_ n1_ n2_ n3_ n4_
       clear hb ho13
       obtain ⟨Ao15,co15,eo15⟩:=Kd.R_slice HO133.out
       (first|subst eo15|(injection eo15 with f1_ f2_ f3_;have f4_:=f1_.symm;have f5_:=f3_.symm;clear f1_ f2_ f3_;subst f4_;subst f5_))
       refine hK.out _ _ ((blk_cell BK130.out 0).trans rfl) (fun hHeld=>?_)
       clear hK K
       refine rN (a':=?_) ?_ ?_
       rotate_left
       ·show Act.put _ (some 16) _=_
        simp only [Act.put,q1,q2,q3,i64_w,i32_w]
        rfl
       refine rO (N:=some 17) HT_ rfl rfl d3 d8 (fun K hK=>?_)
       refine value_ (w1:=?_) (v:=?_) d20 rfl ?_ ?_
       rotate_left 2
       ·go_simp
        constructor
        ·rfl
        rfl
       refine hK.out _ _ ((blk_cell (qa BK130.out _) 0).trans rfl) (fun hHeld=>?_)
       clear hK K
       refine rN (a':=?_) ?_ ?_
       rotate_left
       ·show Act.put _ (some 17) _=_
        simp only [Act.put,q1,q2,q3,i64_w,i32_w]
        rfl
       refine rO (N:=some 18) HT_ rfl rfl d3 d8 (fun K hK=>?_)
       refine Kd.S_append_step (Kd.slice 5 (Kd.int .u8)) (w0:=w) w.heap.size d20 (.tmp 14) (.tmp 17) 37 57 (.slice none 0 0) 24 rfl Try.underlying37 info57 rfl d8 d15 u131000 x131000_1 y131 [.slice Ao15 y131.length co15] (fun _=>True) (fun k_=>some k_=(.slice Ao15 y131.length co15:Value).ownBlock) rfl rfl ?aP (fun k_ hk_=>((Kd.R_mono (ok':=fun k_=>((fun _=>True)) k_∧some k_ ≠ (u131000:Value).ownBlock) (Kd.R_apart' (HO133.out) (Kd.S_typed HO_131000.out) d8) (fun k_ hk=>⟨trivial,hk.2⟩))).1 k_ hk_.symm) ?aF ?aO ?aB ?aS ?aL ?_
       (case aP=>exact Kd.M_row (Kd.R_mono (Kd.R_tight rfl (Kd.R_mono (ok':=fun k_=>((fun _=>True)) k_∧some k_ ≠ (u131000:Value).ownBlock) (Kd.R_apart' (HO133.out) (Kd.S_typed HO_131000.out) d8) (fun k_ hk=>⟨trivial,hk.2⟩))) (fun _ h_=>h_)))
       (case aB=>exact (by repeat (first|(with_reducible first|exact HB.out|apply pa|apply pb|apply pd|refine pt ?_ GE129.out|refine pt ?_ GE130.out)|exact HB.out)))
       (case aF=>exact (fun _ _=>trivial))
       (case aO=>exact (by (with_reducible repeat (first|apply Kd.S_alloc|apply Kd.S_drewN|apply Kd.S_drew));exact Kd.S_mono HO_131000.out (fun k_ hk=>⟨trivial,fun e_=>hk.2 e_⟩)))
       (case aS=>exact (pz (by repeat (first|(with_reducible first|exact HB.out|apply pa|apply pb|apply pd|refine pt ?_ GE129.out|refine pt ?_ GE130.out)|exact HB.out))))
       (case aL=>have:=LMc10.out;omega)
       intro v135 w14 ho hb hg hat
       rw [← Ny134.out] at ho
       have n0_:=am (blk_grown (g:=gb129) (o:=.cells #[.slice none 0 0] 43 (0,0)) (by (with_reducible repeat (first|refine qn ?_ _|refine qd ?_|refine qa ?_ _));exact BK129.out) hg (Kd.S_ne HO_131000.out BK129.out d8))
       have n1_:=am (blk_grown (g:=gb130) (o:=.cells #[u131000] 43 (0,0)) (by (with_reducible repeat (first|refine qn ?_ _|refine qd ?_|refine qa ?_ _));exact BK130.out) hg (Kd.S_ne HO_131000.out BK130.out d8))
       have n2_:=am (hb)
       have n3_:=am (ho)
       clear BK129
       clear BK130
       clear HB
       clear HO_131000
       clear HO133
       have BK129:=n0_
       have BK130:=n1_
       have HB:=n2_
       have HO136:=n3_
       clear n0_ n1_ n2_ n3_
       clear ho hb hg hat
       obtain ⟨Ao16,co16,eo16⟩:=Kd.S_slice HO136.out
       (first|subst eo16|(injection eo16 with f1_ f2_ f3_;have f4_:=f1_.symm;have f5_:=f3_.symm;clear f1_ f2_ f3_;subst f4_;subst f5_))
       refine hK.out _ _ ((blk_cell BK130.out 0).trans rfl) (fun hHeld=>?_)
       clear hK K
       refine rN (a':=?_) ?_ ?_
       rotate_left
       ·show Act.put _ (some 18) _=_
        simp only [Act.put,q1,q2,q3,i64_w,i32_w]
        rfl
       refine rR ?_
       refine rL (N:=none) HT_ rfl rfl d3 d8 (fun K hK=>?_)
       have hs17:w14.cell? ⟨gb130,0,none⟩=some (u131000):=(blk_cell BK130.out 0).trans rfl
       have hfs17:=blk_frozen BK130.out 0
       have hns17_0:=NB129_130.out
       have hms17_0:=NB130_129.out
       refine skip_ (w1:=?_) d20 rfl ?_ ?_
       rotate_left
       ·go_simp
        rfl
       refine hK.out _ _ ?_
       clear hK K
       refine rD HT_ d3 ?_
       try go_wp2
       go_roundg k1
       case measure=>have:=HK1.out;omega
       case rel=>exact ⟨(wrap64 (x6_1+1)),(y134),(.slice Ao16 y134.length co16),d4,H',⟨d30⟩,⟨by (with_reducible repeat (first|apply Kd.S_alloc|apply Kd.S_drewN|apply Kd.S_drew));exact Kd.S_mono (Kd.S_far (p:=⟨gb130,0,none⟩) (Kd.S_types HO136.out BK130.out d8) (fun _ hk=>hk.2) (.slice Ao16 y134.length co16)) (fun _ hk=>trivial)⟩,⟨by (with_reducible repeat (first|refine qn ?_ _|refine qd ?_|refine qa ?_ _));refine blk_far ?_ NB129_130.out _;(with_reducible repeat (first|refine qn ?_ _|refine qd ?_|refine qa ?_ _));exact BK129.out⟩,⟨by (with_reducible repeat (first|refine qn ?_ _|refine qd ?_|refine qa ?_ _));refine blk_put (cs:=#[u131000]) ?_ 0 _ rfl;(with_reducible repeat (first|refine qn ?_ _|refine qd ?_|refine qa ?_ _));exact BK130.out⟩,⟨by repeat (first|(with_reducible first|exact HB.out|apply pa|apply pb|apply pd|refine pt ?_ GE129.out|refine pt ?_ GE130.out)|exact HB.out)⟩⟩
      rw [if_neg c10] at H
      exact absurd H d31
     rw [if_neg c9] at H
     exact absurd H d31
    rw [if_neg c8] at H
    exact absurd H d31
   rw [if_neg c7] at H
   have c7b0:decide (x6_1 < a0)=false:=decide_eq_false c7
   clear c7
   obtain rfl:=Option.some.inj H
   have hnb18:=NB130_129.out
   have hnc18:=NB129_130.out
   have hcz19_0:wr.cell? ⟨gb130,0,none⟩=some (u131000):=(blk_cell BK130.out 0).trans rfl
   have hfz19_0:=blk_frozen BK130.out 0
   obtain ⟨Ao20,co20,eo20⟩:=Kd.S_slice HO_131000.out
   subst eo20
   have hcz21_0:wr.cell? ⟨gb129,0,none⟩=some (.slice none 0 0):=(blk_cell BK129.out 0).trans rfl
   have hfz21_0:=blk_frozen BK129.out 0
   go_wp2
   refine bodyPost_ret (results_cell_row rfl _ _ gb129 43 #[.slice Ao20 x131000_1.length co20] (0,0) _ rfl (by (with_reducible repeat (first|refine qn ?_ _|refine qd ?_|refine qa ?_ _));refine blk_put (cs:=#[.slice none 0 0]) ?_ 0 _ rfl;(with_reducible repeat (first|refine qn ?_ _|refine qd ?_|refine qa ?_ _));exact BK129.out) Try.underlying43 rfl d3) rfl ?_
   exact ⟨_,d5,by (with_reducible repeat (first|apply Kd.S_alloc|apply Kd.S_drewN|apply Kd.S_drew));exact Kd.S_mono (Kd.S_far (p:=⟨gb129,0,none⟩) (Kd.S_types HO_131000.out BK129.out d8) (fun _ hk=>hk.2) (.slice Ao20 x131000_1.length co20)) (fun _ hk=>trivial),by repeat (first|(with_reducible first|exact HB.out|apply pa|apply pb|apply pd|refine pt ?_ GE129.out|refine pt ?_ GE130.out)|exact HB.out)⟩

def spec_l2Identity.l0:Nat→Int→Int→List (List Int)→Option ((List (List Int)))
 | 0,_,_,_=>none
 | k+1,x10,x11,x142000=>if x11 < x10 then (if 0≤x11 then (if x11 < (x142000.length:Int) then (if x11 < ((rd_L3 x142000 x11).length:Int) then (spec_l2Identity.l0 k x10 (wrap64 (x11+1)) (x142000.set (x11:Int).toNat ((rd_L3 x142000 x11).set (x11:Int).toNat 1))) else (none)) else (none)) else (none)) else (some x142000)
def spec_l2Identity.f (k:Nat) (a0:Int):Option ((List (List Int))):=(spec_l2Blank.f k a0 a0).bind fun t138=>(spec_l2Identity.l0 k (t138.length:Int) 0 t138)
theorem spec_l2Identity.mono_l:∀ k,(∀ y0 y1 y2,LeO (spec_l2Identity.l0 k y0 y1 y2) (spec_l2Identity.l0 (k+1) y0 y1 y2))
 | 0=>fun _ _ _ r h=>by simp [spec_l2Identity.l0] at h
 | k+1=>by
  have ih0:=spec_l2Identity.mono_l k
  intro y0 y1 y2
  unfold spec_l2Identity.l0
  repeat' first
  | (with_reducible exact ih0 _ _ _)
  | (with_reducible exact spec_l2Blank.mono _ _ _)
  |(with_reducible exact LeO.refl _)|(with_reducible exact LeO.none _)|(with_reducible refine LeO.ite ?_ ?_)|(with_reducible refine LeO.bind ?_ (fun _=>?_))|exact ih0 _ _ _|exact spec_l2Blank.mono _ _ _|exact LeO.none _|refine LeO.ite ?_ ?_|refine LeO.bind ?_ (fun _=>?_)
theorem spec_l2Identity.mono:∀ a0 k,LeO (spec_l2Identity.f k a0) (spec_l2Identity.f (k+1) a0):=by
 intro a0 k
 have ih0:=spec_l2Identity.mono_l k
 unfold spec_l2Identity.f
 repeat' first
   | (with_reducible exact ih0 _ _ _)
   | (with_reducible exact spec_l2Blank.mono _ _ _)
   |(with_reducible exact LeO.refl _)|(with_reducible exact LeO.none _)|(with_reducible refine LeO.ite ?_ ?_)|(with_reducible refine LeO.bind ?_ (fun _=>?_))|exact ih0 _ _ _|exact spec_l2Blank.mono _ _ _|exact LeO.none _|refine LeO.ite ?_ ?_|refine LeO.bind ?_ (fun _=>?_)
theorem spec_l2Identity.calls (k:Nat) (a0:Int) (r:List (List Int)) (w:World) (h:spec_l2Identity.f k a0=some r) :
  Calls Try.prog 176 #[.int .i64 a0] w fun e w'=>∃ v0_:Value,e = .returned (.agg #[v0_])∧Kd.S (Kd.slice 5 (Kd.int .u8)) 57 w' w.heap.size (fun _=>True) v0_ r∧Below w.heap.size w w':=by
 have hu43:=Try.underlying43
 have HB:=am (Below.refl w.heap.size w)
 have H:((spec_l2Blank.f k a0 a0).bind fun t138=>(spec_l2Identity.l0 k (t138.length:Int) 0 t138))=some r:=h
 clear h
 replace H:=Option.bind_eq_some_iff.mp H
 obtain ⟨t138,A20,H⟩:=H
 replace H:(spec_l2Identity.l0 k (t138.length:Int) 0 t138)=some r:=H
 have A2:=am A20
 clear A20
 have H':=am H
 clear H
 go_enter Try.func176,Try.ntmps176
 go_wp2_with (first|((with_reducible refine gate_dst (N:=2) rfl ?_);refine box_event ?hg (N:=2) ?hd (cs:=#[.slice none 0 0]) (t:=43) ?hr ?_;(case hd=>rfl);(case hg=>rfl);(case hr=>first|(go_simp;done)|(go_simp;rfl));intro gb137 hg w3 hbox hb;have n0_:=am (pu d0 hb);have n1_:=am (hbox);have n2_:=am ((by rw [hg];exact (pz d0):w.heap.size≤gb137));have n3_:=n2_;clear HB;have HB:=n0_;have BK137:=n1_;have GW137:=n2_;have GE137:=n3_;clear n0_ n1_ n2_ n3_;clear hb hbox hg)|((with_reducible refine gate_callee (f:=172) rfl ?_);refine goesL_ (some 7) rfl rfl Try.func172 d3 rfl #[.int .i64 a0, .int .i64 a0] rfl d1 ?_;(with_reducible refine (spec_l2Blank.calls k a0 a0 t138 _ A2.out).mono ?_);rintro e w4 ⟨v139,rfl,ho0,hb⟩;refine ⟨_,rfl,?_⟩;have n0_:=am (Kd.S_lower ho0 (pz (by repeat (first|(with_reducible first|exact HB.out|apply pa|apply pb|apply pd|refine pt ?_ GE137.out)|exact HB.out))));have n1_:=am (qb (g:=gb137) (o:=.cells #[.slice none 0 0] 43 (0,0)) (by (with_reducible repeat (first|refine qn ?_ _|refine qd ?_|refine qa ?_ _));exact BK137.out) hb);have n2_:=am (pu (by repeat (first|(with_reducible first|exact HB.out|apply pa|apply pb|apply pd|refine pt ?_ GE137.out)|exact HB.out)) hb);clear BK137;clear HB;have HO140:=n0_;have BK137:=n1_;have HB:=n2_;clear n0_ n1_ n2_;(try clear hb);(try clear hb2);(try clear hk);(try clear hi);(try clear ho0))|((with_reducible refine gate_dst (N:=3) rfl ?_);refine box_event ?hg (N:=3) ?hd (cs:=#[.slice none 0 0]) (t:=43) ?hr ?_;(case hd=>rfl);(case hg=>rfl);(case hr=>first|(go_simp;done)|(go_simp;rfl));intro gb141 hg w5 hbox hb;have n0_:=am (Kd.S_below (by (with_reducible repeat (first|apply Kd.S_alloc|apply Kd.S_drewN|apply Kd.S_drew));exact HO140.out) hb);have n1_:=am (qb (g:=gb137) (o:=.cells #[.slice none 0 0] 43 (0,0)) (by (with_reducible repeat (first|refine qn ?_ _|refine qd ?_|refine qa ?_ _));exact BK137.out) hb);have n2_:=am (pu (by repeat (first|(with_reducible first|exact HB.out|apply pa|apply pb|apply pd|refine pt ?_ GE137.out)|exact HB.out)) hb);have n3_:=am (hbox);have n4_:=am ((by rw [hg];exact (pz (by repeat (first|(with_reducible first|exact HB.out|apply pa|apply pb|apply pd|refine pt ?_ GE137.out)|exact HB.out))):w.heap.size≤gb141));have n5_:=n4_;have n6_:=am ((by rw [hg];exact Nat.ne_of_lt (blk_lt (g:=gb137) (o:=.cells #[.slice none 0 0] 43 (0,0)) (by (with_reducible repeat (first|refine qn ?_ _|refine qd ?_|refine qa ?_ _));exact BK137.out)):gb137 ≠ gb141));have n7_:=am ((by rw [hg];exact Nat.ne_of_gt (blk_lt (g:=gb137) (o:=.cells #[.slice none 0 0] 43 (0,0)) (by (with_reducible repeat (first|refine qn ?_ _|refine qd ?_|refine qa ?_ _));exact BK137.out)):gb141 ≠ gb137));clear HO140;clear BK137;clear HB;have HO140:=n0_;have BK137:=n1_;have HB:=n2_;have BK141:=n3_;have GW141:=n4_;have GE141:=n5_;have NB137_141:=n6_;have NB141_137:=n7_;clear n0_ n1_ n2_ n3_ n4_ n5_ n6_ n7_;clear hb hbox hg;obtain ⟨Ao6,co6,eo6⟩:=Kd.S_slice HO140.out;subst eo6;have hnb7:=NB141_137.out;have hnc7:=NB137_141.out;have hcz8_0:w5.cell? ⟨gb141,0,none⟩=some (.slice none 0 0):=(blk_cell BK141.out 0).trans rfl;have hfz8_0:=blk_frozen BK141.out 0))
 go_loopg [11] k (fun kq v11 w'=>∃ (x11_1:Int) (x142000_1:List (List Int)) (u142000:Value),v11 = .int .i64 x11_1∧Aside0 (spec_l2Identity.l0 kq (t138.length:Int) x11_1 x142000_1=some r)∧Aside0 (kq≤k)∧Aside0 (Kd.S (Kd.slice 5 (Kd.int .u8)) 57 w' w.heap.size (fun _=>True) u142000 x142000_1)∧Aside0 (w'.heap[gb137]? = some (.cells #[(.slice none 0 0)] 43 (0,0)))∧Aside0 (w'.heap[gb141]? = some (.cells #[u142000] 43 (0,0)))∧Aside0 (Below w.heap.size w w'))
 case atStart=>exact ⟨(0),(t138),(.slice Ao6 t138.length co6),d4,H',⟨Nat.le_refl _⟩,⟨by (with_reducible repeat (first|apply Kd.S_alloc|apply Kd.S_drewN|apply Kd.S_drew));exact Kd.S_mono (Kd.S_far (p:=⟨gb141,0,none⟩) (Kd.S_types HO140.out BK141.out d8) (fun _ hk=>hk.2) (.slice Ao6 t138.length co6)) (fun _ hk=>trivial)⟩,⟨by (with_reducible repeat (first|refine qn ?_ _|refine qd ?_|refine qa ?_ _));refine blk_far ?_ NB137_141.out _;(with_reducible repeat (first|refine qn ?_ _|refine qd ?_|refine qa ?_ _));exact BK137.out⟩,⟨by (with_reducible repeat (first|refine qn ?_ _|refine qd ?_|refine qa ?_ _));refine blk_put (cs:=#[.slice none 0 0]) ?_ 0 _ rfl;(with_reducible repeat (first|refine qn ?_ _|refine qd ?_|refine qa ?_ _));exact BK141.out⟩,⟨by repeat (first|(with_reducible first|exact HB.out|apply pa|apply pb|apply pd|refine pt ?_ GE137.out|refine pt ?_ GE141.out)|exact HB.out)⟩⟩
 case round =>
  clear H'
  try clear c1
  try clear p2
  try clear c7
  try clear hcz8_0
  try clear hfz8_0
  obtain ⟨x11_1,x142000_1,u142000,rfl,HA,HK1,HO_142000,BK137,BK141,HB⟩:=hrel
  cases gk with
  | zero=>exact absurd HA.out (by simp [spec_l2Identity.l0])
  | succ k1 =>
   have H:=HA.out
   clear HA
   simp only [spec_l2Identity.l0] at H
   by_cases c9:x11_1 < (t138.length:Int)
   ·rw [if_pos c9] at H
    have c9b0:decide (x11_1 < (t138.length:Int))=true:=decide_eq_true c9
    clear c9
    by_cases c10:0≤x11_1
    ·rw [if_pos c10] at H
     have c10b0:decide (0≤x11_1)=true:=decide_eq_true c10
     clear c10
     by_cases c11:x11_1 < (x142000_1.length:Int)
     ·rw [if_pos c11] at H
      have c11b0:decide (x11_1 < (x142000_1.length:Int))=true:=decide_eq_true c11
      clear c11
      by_cases c12:x11_1 < ((rd_L3 x142000_1 x11_1).length:Int)
      ·rw [if_pos c12] at H
       have c12b0:decide (x11_1 < ((rd_L3 x142000_1 x11_1).length:Int))=true:=decide_eq_true c12
       clear c12
       obtain ⟨y143,hy143⟩:∃ y_:List Int,y_=((rd_L3 x142000_1 x11_1).set (x11_1:Int).toNat 1):=⟨_,rfl⟩
       replace H:(spec_l2Identity.l0 k1 (t138.length:Int) (wrap64 (x11_1+1)) (x142000_1.set (x11_1:Int).toNat y143))=some r:=by first|(rw [hy143];with_reducible exact H)|(have H2_:=(Option.bind_some _ _).symm.trans H;rw [hy143];with_reducible exact H2_)|(have H2_:=(Option.bind_some _ _).symm.trans H;with_reducible exact H2_)|with_reducible exact H|(rw [hy143];exact H)|exact H
       have Ny143:=am hy143
       clear hy143
       obtain ⟨y145,hy145⟩:∃ y_:List (List Int),y_=(x142000_1.set (x11_1:Int).toNat y143):=⟨_,rfl⟩
       replace H:(spec_l2Identity.l0 k1 (t138.length:Int) (wrap64 (x11_1+1)) y145)=some r:=by first|(rw [hy145];with_reducible exact H)|(have H2_:=(Option.bind_some _ _).symm.trans H;rw [hy145];with_reducible exact H2_)|(have H2_:=(Option.bind_some _ _).symm.trans H;with_reducible exact H2_)|with_reducible exact H|(rw [hy145];exact H)|exact H
       have Ny145:=am hy145
       clear hy145
       have H':=am H
       clear H
       have hnb14:=NB141_137.out
       have hnc14:=NB137_141.out
       have hcz15_0:wr.cell? ⟨gb141,0,none⟩=some (u142000):=(blk_cell BK141.out 0).trans rfl
       have hfz15_0:=blk_frozen BK141.out 0
       obtain ⟨Ao16,co16,eo16⟩:=Kd.S_slice HO_142000.out
       subst eo16
       have p142:0≤(x11_1:Int):=od d2
       have q142:x11_1 < (x142000_1.length:Int):=od d2
       obtain ⟨ad142,A142_0,c142_0,e142,hx142_0,hl142_0,hi142_0⟩:=at_L3 (Kd.S_reads' HO_142000.out).2.2 x11_1 p142 q142
       cases e142
       obtain ⟨ce142,hce142,hMe142,hcc142⟩:=Kd.S_get HO_142000.out [] x11_1 p142 (by first|exact q142|exact od d2|(have e_:=(Kd.S_reads' HO_142000.out).1;omega))
       obtain ⟨ve142_0,rfl,ge142_0⟩:=hMe142
       have hv142_0:=hcc142 0 _ rfl
       rw [Nat.add_zero,show ((Kd.slice 5 (Kd.int .u8))).sz=1 from rfl,Nat.mul_one] at hv142_0
       replace hv142_0:=Option.some.inj (hv142_0.symm.trans hx142_0)
       rw [hv142_0] at ge142_0
       have HL142_0:=am (show Kd.R (Kd.int .u8) 5 _ _ _ _ (rd_L3 x142000_1 x11_1) from ge142_0)
       clear hv142_0 ge142_0
       have HX142_0:=am hx142_0
       clear hcc142 hce142
       have HR142_0:=am hi142_0
       have HC142_0:=am hl142_0
       clear hi142_0 hl142_0
       replace p142:=eq_true p142
       replace q142:=eq_true q142
       have p13:0≤(x11_1:Int):=od d2
       have q13:(x11_1:Int) < (((rd_L3 x142000_1 x11_1).length:Int):Int):=od d2
       obtain ⟨go13,co13,eo13,gb13,gl13,cl13,HG13⟩:=Kd.R_form HL142_0.out d15
       (first|cases eo13|(injection eo13 with ea_ en_ ec_;(first|subst ea_|(injection ea_ with ea_;subst ea_));subst ec_;clear en_))
       have GB13:=am gb13
       have GG13:=am HG13
       clear gb13 gl13 HG13
       obtain ⟨hx13_0,hf13_0⟩:=Kd.R_celln 0 HL142_0.out (x11_1:Int) p13 q13
       replace p13:=eq_true p13
       replace q13:=eq_true q13
       have hq17:(x11_1:Int) < (x142000_1.length:Int):=(by have h_:(x11_1:Int) < ((x142000_1.length:Int):Int):=od d2;first|exact h_|(have e_:=(Kd.S_reads' HO_142000.out).1;omega)|simpa only [List.length_set,List.length_set] using h_)
       obtain ⟨oki17,ce17,hcl17,hM17,hcc17,hok17,hbk17⟩:=Kd.S_borrow HO_142000.out [] (x11_1:Int) (od d2) hq17
       obtain ⟨ve17_0,rfl,ge17_0⟩:=hM17
       have hv17:=hcc17 0 _ rfl
       rw [Nat.add_zero,show ((Kd.slice 5 (Kd.int .u8))).sz=1 from rfl,Nat.mul_one] at hv17
       replace hv17:=Option.some.inj (hv17.symm.trans HX142_0.out)
       subst hv17
       clear hcc17 hcl17
       replace ge17_0:=(show Kd.R (Kd.int .u8) 5 _ _ _ _ (rd_L3 x142000_1 x11_1) from ge17_0)
       have HP17:=Kd.R_putg ge17_0 (x11_1:Int) 1
       go_wp2_with (first|((with_reducible refine gate_store (t:=5) (p:=20) rfl ?_);refine store_event (t:=5) (p:=20) (v:=?vo_w18) (w1:=(wr.setCell ⟨go13,(x11_1:Int).toNat,none⟩ (.int .u8 1))) ?hg ?ho ?hn ?hr ?_;(case ho=>rfl);(case hg=>rfl);(case hn=>rfl);(case hr=>first|(go_simp;done)|(go_simp;rfl));intro w18 hw;have hg:wr.grownBy w18 (some go13):=(by rw [hw];exact HP17.2);have hz_:Kd.R (Kd.int .u8) 5 w18 w.heap.size oki17 (.slice (some ⟨go13,0,none⟩) (rd_L3 x142000_1 x11_1).length c142_0) y143:=(by rw [hw,Ny143.out];exact HP17.1);have hp_:Kd.S (Kd.slice 5 (Kd.int .u8)) 57 w18 w.heap.size (fun _=>True) (.slice (some ad142) x142000_1.length co16) y145:=(by rw [Ny145.out];exact hbk17 hg (fun k_ e_=>by injection e_ with e_;subst e_;exact ge17_0.1 _ rfl) (Kd.M_row hz_));have hm_:=Kd.R_mono hz_ hok17;clear HP17 hbk17;have n0_:=am (hp_);have n1_:=am (blk_grown (g:=gb137) (o:=.cells #[.slice none 0 0] 43 (0,0)) (by (with_reducible repeat (first|refine qn ?_ _|refine qd ?_|refine qa ?_ _));exact BK137.out) hg (Kd.R_ne HL142_0.out BK137.out d8));have n2_:=am (blk_grown (g:=gb141) (o:=.cells #[.slice (some ad142) x142000_1.length co16] 43 (0,0)) (by (with_reducible repeat (first|refine qn ?_ _|refine qd ?_|refine qa ?_ _));exact BK141.out) hg (Kd.R_ne HL142_0.out BK141.out d8));have n3_:=am ((by rw [hw];exact pt (HB.out) GB13.out:Below w.heap.size w w18));have n4_:=am (hm_);have n5_:=am ((Kd.R_reads' hm_).2.1);clear HO_142000;clear BK137;clear BK141;clear HB;clear HL142_0;have HO_142000:=n0_;have BK137:=n1_;have BK141:=n2_;have HB:=n3_;have HL146:=n4_;have HC144:=n5_;clear n0_ n1_ n2_ n3_ n4_ n5_;clear hg hw hp_ hz_ hm_ hok17))
       go_roundg k1
       case measure=>have:=HK1.out;omega
       case rel=>exact ⟨(wrap64 (x11_1+1)),(y145),(.slice (some ad142) x142000_1.length co16),d4,H',⟨d30⟩,⟨by (with_reducible repeat (first|apply Kd.S_alloc|apply Kd.S_drewN|apply Kd.S_drew));exact HO_142000.out⟩,⟨by (with_reducible repeat (first|refine qn ?_ _|refine qd ?_|refine qa ?_ _));exact BK137.out⟩,⟨by (with_reducible repeat (first|refine qn ?_ _|refine qd ?_|refine qa ?_ _));exact BK141.out⟩,⟨by repeat (first|(with_reducible first|exact HB.out|apply pa|apply pb|apply pd|refine pt ?_ GE137.out|refine pt ?_ GE141.out)|exact HB.out)⟩⟩
      rw [if_neg c12] at H
      exact absurd H d31
     rw [if_neg c11] at H
     exact absurd H d31
    rw [if_neg c10] at H
    exact absurd H d31
   rw [if_neg c9] at H
   have c9b0:decide (x11_1 < (t138.length:Int))=false:=decide_eq_false c9
   clear c9
   obtain rfl:=Option.some.inj H
   have hnb19:=NB141_137.out
   have hnc19:=NB137_141.out
   have hcz20_0:wr.cell? ⟨gb141,0,none⟩=some (u142000):=(blk_cell BK141.out 0).trans rfl
   have hfz20_0:=blk_frozen BK141.out 0
   obtain ⟨Ao21,co21,eo21⟩:=Kd.S_slice HO_142000.out
   subst eo21
   have hcz22_0:wr.cell? ⟨gb137,0,none⟩=some (.slice none 0 0):=(blk_cell BK137.out 0).trans rfl
   have hfz22_0:=blk_frozen BK137.out 0
   go_wp2
   refine bodyPost_ret (results_cell_row rfl _ _ gb137 43 #[.slice Ao21 x142000_1.length co21] (0,0) _ rfl (by (with_reducible repeat (first|refine qn ?_ _|refine qd ?_|refine qa ?_ _));refine blk_put (cs:=#[.slice none 0 0]) ?_ 0 _ rfl;(with_reducible repeat (first|refine qn ?_ _|refine qd ?_|refine qa ?_ _));exact BK137.out) Try.underlying43 rfl d3) rfl ?_
   exact ⟨_,d5,by (with_reducible repeat (first|apply Kd.S_alloc|apply Kd.S_drewN|apply Kd.S_drew));exact Kd.S_mono (Kd.S_far (p:=⟨gb137,0,none⟩) (Kd.S_types HO_142000.out BK137.out d8) (fun _ hk=>hk.2) (.slice Ao21 x142000_1.length co21)) (fun _ hk=>trivial),by repeat (first|(with_reducible first|exact HB.out|apply pa|apply pb|apply pd|refine pt ?_ GE137.out|refine pt ?_ GE141.out)|exact HB.out)⟩

end Go.Proofs.Ytajikfnpcobnpaa.PFnExactRegeneratePiece
-- HALVED
-- SQUEEZED
-- SQUEEZED2
-- SQUEEZED3
-- SQUEEZED4
-- SQUEEZED5
-- SQUEEZED6
