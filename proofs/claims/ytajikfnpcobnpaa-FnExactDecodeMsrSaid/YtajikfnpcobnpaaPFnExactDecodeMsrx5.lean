-- Laid by a program of this session.
import Derived.Test.YtajikfnpcobnpaaPFnExactDecodeMsrx0
namespace Go.Proofs.Ytajikfnpcobnpaa.PFnExactDecodeMsr
open Go.RowKit Go.Proofs.YtajikfnpcobnpaaW.PrintWords Go.Proofs.YtajikfnpcobnpaaW.PrintLast Go.Proofs.YtajikfnpcobnpaaW.PrintMore
attribute [local go_sem] max2_int min2_int max_two min_two max_three min_three max_four min_four   -- for this text's walks alone
set_option linter.unusedVariables false
set_option maxHeartbeats 8000000
set_option maxRecDepth 100000
set_option linter.unusedSimpArgs false

def spec_l2Blank.l0:Nat→Int→Int→Int→List (List Int)→Option ((List (List Int)))
 | 0,_,_,_,_=>none
 | k+1,x0,x1,x6,x142000=>if x6 < x0 then (if 0≤x1 then (if (x1:Int).toNat≤281474976710656 then (if x142000.length < 5864062014805 then (spec_l2Blank.l0 k x0 x1 (wrap64 (x6+1)) (x142000 ++ [(List.replicate (x1:Int).toNat 0)])) else (none)) else (none)) else (none)) else (some x142000)
def spec_l2Blank.f (k:Nat) (a0:Int) (a1:Int):Option ((List (List Int))):=spec_l2Blank.l0 k a0 a1 0 ([]:List (List Int))
theorem spec_l2Blank.mono_l:∀ k,(∀ y0 y1 y2 y3,LeO (spec_l2Blank.l0 k y0 y1 y2 y3) (spec_l2Blank.l0 (k+1) y0 y1 y2 y3))
 | 0=>fun _ _ _ _ r h=>by simp [spec_l2Blank.l0] at h
 | k+1=>by
  have ih0:=spec_l2Blank.mono_l k
  intro y0 y1 y2 y3
  unfold spec_l2Blank.l0
  repeat' first
  | (with_reducible exact ih0 _ _ _ _)
  |(with_reducible exact LeO.refl _)|(with_reducible exact LeO.none _)|(with_reducible refine LeO.ite ?_ ?_)|(with_reducible refine LeO.bind ?_ (fun _=>?_))|exact ih0 _ _ _ _|exact LeO.none _|refine LeO.ite ?_ ?_|refine LeO.bind ?_ (fun _=>?_)
theorem spec_l2Blank.mono:∀ a0 a1 k,LeO (spec_l2Blank.f k a0 a1) (spec_l2Blank.f (k+1) a0 a1):=by
 intro a0 a1 k
 have ih0:=spec_l2Blank.mono_l k
 unfold spec_l2Blank.f
 repeat' first
   | (with_reducible exact ih0 _ _ _ _)
   |(with_reducible exact LeO.refl _)|(with_reducible exact LeO.none _)|(with_reducible refine LeO.ite ?_ ?_)|(with_reducible refine LeO.bind ?_ (fun _=>?_))|exact ih0 _ _ _ _|exact LeO.none _|refine LeO.ite ?_ ?_|refine LeO.bind ?_ (fun _=>?_)
def spec_l2Blank.T5:Bool × List (List Nat × List Nat):=(true,[([],[]),([0],[0]),([],[]),([2,2],[2]),([3],[3]),([1,4],[1,4]),([0,1,2,3,4,5],[]),([6,5,5,0,1,2,3,4,5],[5,6])])
def spec_l2Blank.B5:List Nat:=[0,1,0,4,12,31,63,127]
theorem spec_l2Blank.tab5:rtab .any (opsOf Try.f172 5)=spec_l2Blank.T5:=by kernel_rfl
theorem spec_l2Blank.bits5:waitsOk spec_l2Blank.T5.2 spec_l2Blank.B5=true:=by kernel_rfl
theorem spec_l2Blank.calls (k:Nat) (a0:Int) (a1:Int) (r:List (List Int)) (w:World) (h:spec_l2Blank.f k a0 a1=some r) :
  Calls Try.prog 172 #[.int .i64 a0, .int .i64 a1] w fun e w'=>∃ v0_:Value,e = .returned (.agg #[v0_])∧Kd.S (Kd.slice 5 (Kd.int .u8)) 57 w' w.heap.size (fun _=>True) v0_ r∧Below w.heap.size w w':=by
 have hu43:=Try.underlying43
 have HB:=am (Below.refl w.heap.size w)
 have H:(spec_l2Blank.l0 k a0 a1 0 ([]:List (List Int)))=some r:=h
 clear h
 have H':=am H
 clear H
 go_enter Try.func172,Try.ntmps172
 go_wp2_with (first|((with_reducible refine gate_dst (N:=4) rfl ?_);refine box_event ?hg (N:=4) ?hd (cs:=#[.slice none 0 0]) (t:=43) ?hr ?_;(case hd=>rfl);(case hg=>rfl);(case hr=>first|(go_simp;done)|(go_simp;rfl));intro gb140 hg w3 hbox hb;have n0_:=am (pu d0 hb);have n1_:=am (hbox);have n2_:=am ((by rw [hg];exact (pz d0):w.heap.size≤gb140));have n3_:=n2_;clear HB;have HB:=n0_;have BK140:=n1_;have GW140:=n2_;have GE140:=n3_;clear n0_ n1_ n2_ n3_;clear hb hbox hg)|((with_reducible refine gate_dst (N:=5) rfl ?_);refine box_event ?hg (N:=5) ?hd (cs:=#[.slice none 0 0]) (t:=43) ?hr ?_;(case hd=>rfl);(case hg=>rfl);(case hr=>first|(go_simp;done)|(go_simp;rfl));intro gb141 hg w4 hbox hb;have n0_:=am (qb (g:=gb140) (o:=.cells #[.slice none 0 0] 43 (0,0)) (by (with_reducible repeat (first|refine qn ?_ _|refine qd ?_|refine qa ?_ _));exact BK140.out) hb);have n1_:=am (pu (by repeat (first|(with_reducible first|exact HB.out|apply pa|apply pb|apply pd|refine pt ?_ GE140.out)|exact HB.out)) hb);have n2_:=am (hbox);have n3_:=am ((by rw [hg];exact (pz (by repeat (first|(with_reducible first|exact HB.out|apply pa|apply pb|apply pd|refine pt ?_ GE140.out)|exact HB.out))):w.heap.size≤gb141));have n4_:=n3_;have n5_:=am ((by rw [hg];exact Nat.ne_of_lt (blk_lt (g:=gb140) (o:=.cells #[.slice none 0 0] 43 (0,0)) (by (with_reducible repeat (first|refine qn ?_ _|refine qd ?_|refine qa ?_ _));exact BK140.out)):gb140 ≠ gb141));have n6_:=am ((by rw [hg];exact Nat.ne_of_gt (blk_lt (g:=gb140) (o:=.cells #[.slice none 0 0] 43 (0,0)) (by (with_reducible repeat (first|refine qn ?_ _|refine qd ?_|refine qa ?_ _));exact BK140.out)):gb141 ≠ gb140));clear BK140;clear HB;have BK140:=n0_;have HB:=n1_;have BK141:=n2_;have GW141:=n3_;have GE141:=n4_;have NB140_141:=n5_;have NB141_140:=n6_;clear n0_ n1_ n2_ n3_ n4_ n5_ n6_;clear hb hbox hg;have hnb5:=NB141_140.out;have hnc5:=NB140_141.out;have hcz6_0:w4.cell? ⟨gb141,0,none⟩=some (.slice none 0 0):=(blk_cell BK141.out 0).trans rfl;have hfz6_0:=blk_frozen BK141.out 0))
 go_loopg [6] k (fun kq v6 w'=>∃ (x6_1:Int) (x142000_1:List (List Int)) (u142000:Value),v6 = .int .i64 x6_1∧Aside0 (spec_l2Blank.l0 kq a0 a1 x6_1 x142000_1=some r)∧Aside0 (kq≤k)∧Aside0 (Kd.S (Kd.slice 5 (Kd.int .u8)) 57 w' w.heap.size (fun _=>True) u142000 x142000_1)∧Aside0 (w'.heap[gb140]? = some (.cells #[(.slice none 0 0)] 43 (0,0)))∧Aside0 (w'.heap[gb141]? = some (.cells #[u142000] 43 (0,0)))∧Aside0 (Below w.heap.size w w'))
 case atStart=>exact ⟨(0),(([]:List (List Int))),(.slice none 0 0),d2,H',⟨Nat.le_refl _⟩,⟨d51⟩,⟨by (with_reducible repeat (first|refine qn ?_ _|refine qd ?_|refine qa ?_ _));refine blk_far ?_ NB140_141.out _;(with_reducible repeat (first|refine qn ?_ _|refine qd ?_|refine qa ?_ _));exact BK140.out⟩,⟨by (with_reducible repeat (first|refine qn ?_ _|refine qd ?_|refine qa ?_ _));refine blk_put (cs:=#[.slice none 0 0]) ?_ 0 _ rfl;(with_reducible repeat (first|refine qn ?_ _|refine qd ?_|refine qa ?_ _));exact BK141.out⟩,⟨by repeat (first|(with_reducible first|exact HB.out|apply pa|apply pb|apply pd|refine pt ?_ GE140.out|refine pt ?_ GE141.out)|exact HB.out)⟩⟩
 case round =>
  clear H'
  try clear c1
  try clear p2
  try clear c5
  try clear hcz6_0
  try clear hfz6_0
  obtain ⟨x6_1,x142000_1,u142000,rfl,HA,HK1,HO_142000,BK140,BK141,HB⟩:=hrel
  cases gk with
  | zero=>exact absurd HA.out (by simp [spec_l2Blank.l0])
  | succ k1 =>
   have H:=HA.out
   clear HA
   simp only [spec_l2Blank.l0] at H
   by_cases c7:x6_1 < a0
   ·rw [if_pos c7] at H
    have c7b0:decide (x6_1 < a0)=true:=decide_eq_true c7
    clear c7
    by_cases c8:0≤a1
    ·rw [if_pos c8] at H
     have c8b0:=eq_true c8
     have c8b1:decide (0≤a1)=true:=decide_eq_true c8
     clear c8
     by_cases c9:(a1:Int).toNat≤281474976710656
     ·rw [if_pos c9] at H
      have c9b0:=eq_true c9
      have c9b1:decide ((a1:Int).toNat≤281474976710656)=true:=decide_eq_true c9
      clear c9
      obtain ⟨y142,hy142⟩:∃ y_:List Int,y_=(List.replicate (a1:Int).toNat 0):=⟨_,rfl⟩
      replace H:(if x142000_1.length < 5864062014805 then (spec_l2Blank.l0 k1 a0 a1 (wrap64 (x6_1+1)) (x142000_1 ++ [y142])) else (none))=some r:=by first|(rw [hy142];with_reducible exact H)|(have H2_:=(Option.bind_some _ _).symm.trans H;rw [hy142];with_reducible exact H2_)|(have H2_:=(Option.bind_some _ _).symm.trans H;with_reducible exact H2_)|with_reducible exact H|(rw [hy142];exact H)|exact H
      have Ny142:=am hy142
      clear hy142
      by_cases c10:x142000_1.length < 5864062014805
      ·rw [if_pos c10] at H
       have LMc10:=am c10
       clear c10
       obtain ⟨y145,hy145⟩:∃ y_:List (List Int),y_=(x142000_1 ++ [y142]):=⟨_,rfl⟩
       replace H:(spec_l2Blank.l0 k1 a0 a1 (wrap64 (x6_1+1)) y145)=some r:=by first|(rw [hy145];with_reducible exact H)|(have H2_:=(Option.bind_some _ _).symm.trans H;rw [hy145];with_reducible exact H2_)|(have H2_:=(Option.bind_some _ _).symm.trans H;with_reducible exact H2_)|with_reducible exact H|(rw [hy145];exact H)|exact H
       have Ny145:=am hy145
       clear hy145
       have H':=am H
       clear H
       try go_wp2
       have n0_:=am (Kd.S_drew HO_142000.out)
       have n1_:=am (qd BK140.out)
       have n2_:=am (qd BK141.out)
       have n3_:=am (pd HB.out)
       clear HO_142000
       clear BK140
       clear BK141
       clear HB
       have HO_142000:=n0_
       have BK140:=n1_
       have BK141:=n2_
       have HB:=n3_
       clear n0_ n1_ n2_ n3_
       refine rS (n:=8) (S:=fun w'=>w'.cell? ⟨gb141,0,none⟩=some (u142000)) (ds:=[7]) [(0,13),(2,15),(1,14),(3,0),(4,0),(5,0),(6,19),(7,0)] d3 rfl spec_l2Blank.tab5 spec_l2Blank.bits5 ((blk_cell BK141.out 0).trans rfl) (fun hHeld HT_ HW_=>?_)
       generalize wr.drew=w11 at HO_142000 BK140 BK141 HB hHeld ⊢
       refine rR ?_
       refine rO (N:=some 16) HT_ rfl rfl d3 d11 (fun K hK=>?_)
       refine Kd.R_make_step (Kd.int .u8) _ 5 d18 (N:=16) rfl 57 _ _ rfl a1 rfl rfl Try.underlying57 (.int .u8 0) 1 info5 rfl d11 d10 0 (ok:=fun _=>True) (okp:=fun _=>True) rfl (fun _ hk=>hk) trivial (od d1) (Nat.le_trans (Nat.mul_le_mul_right _ (od d1:a1.toNat≤281474976710656)) d10) (Below.refl _ _) (Nat.le_refl _) ?_
       intro v143 w12 ho13 hb hg_ hnew_
       clear hg_ hnew_
       (first|rw [← Ny142.out] at ho13|(simp only [Int.reduceToNat] at ho13;rw [← Ny142.out] at ho13))
       have n0_:=am (Kd.S_elder' (by (with_reducible repeat (first|apply Kd.S_alloc|apply Kd.S_drewN|apply Kd.S_drew));exact HO_142000.out) (Kd.R_base ho13) hb)
       have n1_:=am (Kd.R_lower ho13 (pz (by repeat (first|(with_reducible first|exact HB.out|apply pa|apply pb|apply pd|refine pt ?_ GE140.out|refine pt ?_ GE141.out)|exact HB.out))))
       have n2_:=am (qb (g:=gb140) (o:=.cells #[.slice none 0 0] 43 (0,0)) (by (with_reducible repeat (first|refine qn ?_ _|refine qd ?_|refine qa ?_ _));exact BK140.out) hb)
       have n3_:=am (qb (g:=gb141) (o:=.cells #[u142000] 43 (0,0)) (by (with_reducible repeat (first|refine qn ?_ _|refine qd ?_|refine qa ?_ _));exact BK141.out) hb)
       have n4_:=am (pu (by repeat (first|(with_reducible first|exact HB.out|apply pa|apply pb|apply pd|refine pt ?_ GE140.out|refine pt ?_ GE141.out)|exact HB.out)) hb)
       clear HO_142000
       clear BK140
       clear BK141
       clear HB
       have HO_142000:=n0_
       have HO144:=n1_
       have BK140:=n2_
       have BK141:=n3_
       have HB:=n4_
       clear n0_ n1_ n2_ n3_ n4_
       clear hb ho13
       obtain ⟨Ao15,co15,eo15⟩:=Kd.R_slice HO144.out
       (first|subst eo15|(injection eo15 with f1_ f2_ f3_;have f4_:=f1_.symm;have f5_:=f3_.symm;clear f1_ f2_ f3_;subst f4_;subst f5_))
       refine hK.out _ _ ((blk_cell BK141.out 0).trans rfl) (fun hHeld=>?_)
       clear hK K
       refine rN (a':=?_) ?_ ?_
       rotate_left
       ·show Act.put _ (some 16) _=_
        simp only [Act.put,q1,q2,q3,i64_w,i32_w]
        rfl
       refine rO (N:=some 17) HT_ rfl rfl d3 d11 (fun K hK=>?_)
       refine value_ (w1:=?_) (v:=?_) d18 rfl ?_ ?_
       rotate_left 2
       ·go_simp
        constructor
        ·rfl
        rfl
       refine hK.out _ _ ((blk_cell (qa BK141.out _) 0).trans rfl) (fun hHeld=>?_)
       clear hK K
       refine rN (a':=?_) ?_ ?_
       rotate_left
       ·show Act.put _ (some 17) _=_
        simp only [Act.put,q1,q2,q3,i64_w,i32_w]
        rfl
       refine rO (N:=some 18) HT_ rfl rfl d3 d11 (fun K hK=>?_)
       refine Kd.S_append_step (Kd.slice 5 (Kd.int .u8)) (w0:=w) w.heap.size d18 (.tmp 14) (.tmp 17) 37 57 (.slice none 0 0) 24 rfl Try.underlying37 info57 rfl d11 d10 u142000 x142000_1 y142 [.slice Ao15 y142.length co15] (fun _=>True) (fun k_=>some k_=(.slice Ao15 y142.length co15:Value).ownBlock) rfl rfl ?aP (fun k_ hk_=>((Kd.R_mono (ok':=fun k_=>((fun _=>True)) k_∧some k_ ≠ (u142000:Value).ownBlock) (Kd.R_apart' (HO144.out) (Kd.S_typed HO_142000.out) d11) (fun k_ hk=>⟨trivial,hk.2⟩))).1 k_ hk_.symm) ?aF ?aO ?aB ?aS ?aL ?_
       (case aP=>exact Kd.M_row (Kd.R_mono (Kd.R_tight rfl (Kd.R_mono (ok':=fun k_=>((fun _=>True)) k_∧some k_ ≠ (u142000:Value).ownBlock) (Kd.R_apart' (HO144.out) (Kd.S_typed HO_142000.out) d11) (fun k_ hk=>⟨trivial,hk.2⟩))) (fun _ h_=>h_)))
       (case aB=>exact (by repeat (first|(with_reducible first|exact HB.out|apply pa|apply pb|apply pd|refine pt ?_ GE140.out|refine pt ?_ GE141.out)|exact HB.out)))
       (case aF=>exact (fun _ _=>trivial))
       (case aO=>exact (by (with_reducible repeat (first|apply Kd.S_alloc|apply Kd.S_drewN|apply Kd.S_drew));exact Kd.S_mono HO_142000.out (fun k_ hk=>⟨trivial,fun e_=>hk.2 e_⟩)))
       (case aS=>exact (pz (by repeat (first|(with_reducible first|exact HB.out|apply pa|apply pb|apply pd|refine pt ?_ GE140.out|refine pt ?_ GE141.out)|exact HB.out))))
       (case aL=>have:=LMc10.out;omega)
       intro v146 w14 ho hb hg hat
       rw [← Ny145.out] at ho
       have n0_:=am (blk_grown (g:=gb140) (o:=.cells #[.slice none 0 0] 43 (0,0)) (by (with_reducible repeat (first|refine qn ?_ _|refine qd ?_|refine qa ?_ _));exact BK140.out) hg (Kd.S_ne HO_142000.out BK140.out d11))
       have n1_:=am (blk_grown (g:=gb141) (o:=.cells #[u142000] 43 (0,0)) (by (with_reducible repeat (first|refine qn ?_ _|refine qd ?_|refine qa ?_ _));exact BK141.out) hg (Kd.S_ne HO_142000.out BK141.out d11))
       have n2_:=am (hb)
       have n3_:=am (ho)
       clear BK140
       clear BK141
       clear HB
       clear HO_142000
       clear HO144
       have BK140:=n0_
       have BK141:=n1_
       have HB:=n2_
       have HO147:=n3_
       clear n0_ n1_ n2_ n3_
       clear ho hb hg hat
       obtain ⟨Ao16,co16,eo16⟩:=Kd.S_slice HO147.out
       (first|subst eo16|(injection eo16 with f1_ f2_ f3_;have f4_:=f1_.symm;have f5_:=f3_.symm;clear f1_ f2_ f3_;subst f4_;subst f5_))
       refine hK.out _ _ ((blk_cell BK141.out 0).trans rfl) (fun hHeld=>?_)
       clear hK K
       refine rN (a':=?_) ?_ ?_
       rotate_left
       ·show Act.put _ (some 18) _=_
        simp only [Act.put,q1,q2,q3,i64_w,i32_w]
        rfl
       refine rR ?_
       refine rL (N:=none) HT_ rfl rfl d3 d11 (fun K hK=>?_)
       have hs17:w14.cell? ⟨gb141,0,none⟩=some (u142000):=(blk_cell BK141.out 0).trans rfl
       have hfs17:=blk_frozen BK141.out 0
       have hns17_0:=NB140_141.out
       have hms17_0:=NB141_140.out
       refine skip_ (w1:=?_) d18 rfl ?_ ?_
       rotate_left
       ·go_simp
        rfl
       refine hK.out _ _ ?_
       clear hK K
       refine rD HT_ d3 ?_
       try go_wp2
       go_roundg k1
       case measure=>have:=HK1.out;omega
       case rel=>exact ⟨(wrap64 (x6_1+1)),(y145),(.slice Ao16 y145.length co16),d2,H',⟨d30⟩,⟨by (with_reducible repeat (first|apply Kd.S_alloc|apply Kd.S_drewN|apply Kd.S_drew));exact Kd.S_mono (Kd.S_far (p:=⟨gb141,0,none⟩) (Kd.S_types HO147.out BK141.out d11) (fun _ hk=>hk.2) (.slice Ao16 y145.length co16)) (fun _ hk=>trivial)⟩,⟨by (with_reducible repeat (first|refine qn ?_ _|refine qd ?_|refine qa ?_ _));refine blk_far ?_ NB140_141.out _;(with_reducible repeat (first|refine qn ?_ _|refine qd ?_|refine qa ?_ _));exact BK140.out⟩,⟨by (with_reducible repeat (first|refine qn ?_ _|refine qd ?_|refine qa ?_ _));refine blk_put (cs:=#[u142000]) ?_ 0 _ rfl;(with_reducible repeat (first|refine qn ?_ _|refine qd ?_|refine qa ?_ _));exact BK141.out⟩,⟨by repeat (first|(with_reducible first|exact HB.out|apply pa|apply pb|apply pd|refine pt ?_ GE140.out|refine pt ?_ GE141.out)|exact HB.out)⟩⟩
      rw [if_neg c10] at H
      exact absurd H d20
     rw [if_neg c9] at H
     exact absurd H d20
    rw [if_neg c8] at H
    exact absurd H d20
   rw [if_neg c7] at H
   have c7b0:decide (x6_1 < a0)=false:=decide_eq_false c7
   clear c7
   obtain rfl:=Option.some.inj H
   have hnb18:=NB141_140.out
   have hnc18:=NB140_141.out
   have hcz19_0:wr.cell? ⟨gb141,0,none⟩=some (u142000):=(blk_cell BK141.out 0).trans rfl
   have hfz19_0:=blk_frozen BK141.out 0
   obtain ⟨Ao20,co20,eo20⟩:=Kd.S_slice HO_142000.out
   subst eo20
   have hcz21_0:wr.cell? ⟨gb140,0,none⟩=some (.slice none 0 0):=(blk_cell BK140.out 0).trans rfl
   have hfz21_0:=blk_frozen BK140.out 0
   go_wp2
   refine bodyPost_ret (results_cell_row rfl _ _ gb140 43 #[.slice Ao20 x142000_1.length co20] (0,0) _ rfl (by (with_reducible repeat (first|refine qn ?_ _|refine qd ?_|refine qa ?_ _));refine blk_put (cs:=#[.slice none 0 0]) ?_ 0 _ rfl;(with_reducible repeat (first|refine qn ?_ _|refine qd ?_|refine qa ?_ _));exact BK140.out) Try.underlying43 rfl d3) rfl ?_
   exact ⟨_,d4,by (with_reducible repeat (first|apply Kd.S_alloc|apply Kd.S_drewN|apply Kd.S_drew));exact Kd.S_mono (Kd.S_far (p:=⟨gb140,0,none⟩) (Kd.S_types HO_142000.out BK140.out d11) (fun _ hk=>hk.2) (.slice Ao20 x142000_1.length co20)) (fun _ hk=>trivial),by repeat (first|(with_reducible first|exact HB.out|apply pa|apply pb|apply pd|refine pt ?_ GE140.out|refine pt ?_ GE141.out)|exact HB.out)⟩

def spec_l2Identity.l0:Nat→Int→Int→List (List Int)→Option ((List (List Int)))
 | 0,_,_,_=>none
 | k+1,x10,x11,x153000=>if x11 < x10 then (if 0≤x11 then (if x11 < (x153000.length:Int) then (if x11 < ((rd_L2 x153000 x11).length:Int) then (spec_l2Identity.l0 k x10 (wrap64 (x11+1)) (x153000.set (x11:Int).toNat ((rd_L2 x153000 x11).set (x11:Int).toNat 1))) else (none)) else (none)) else (none)) else (some x153000)
def spec_l2Identity.f (k:Nat) (a0:Int):Option ((List (List Int))):=(spec_l2Blank.f k a0 a0).bind fun t149=>(spec_l2Identity.l0 k (t149.length:Int) 0 t149)
theorem spec_l2Identity.mono_l:∀ k,(∀ y0 y1 y2,LeO (spec_l2Identity.l0 k y0 y1 y2) (spec_l2Identity.l0 (k+1) y0 y1 y2))
 | 0=>fun _ _ _ r h=>by simp [spec_l2Identity.l0] at h
 | k+1=>by
  have ih0:=spec_l2Identity.mono_l k
  intro y0 y1 y2
  unfold spec_l2Identity.l0
  repeat' first
  | (with_reducible exact ih0 _ _ _)
  | (with_reducible exact spec_l2Blank.mono _ _ _)
  |(with_reducible exact LeO.refl _)|(with_reducible exact LeO.none _)|(with_reducible refine LeO.ite ?_ ?_)|(with_reducible refine LeO.bind ?_ (fun _=>?_))|exact ih0 _ _ _|exact spec_l2Blank.mono _ _ _|exact LeO.none _|refine LeO.ite ?_ ?_|refine LeO.bind ?_ (fun _=>?_)
theorem spec_l2Identity.mono:∀ a0 k,LeO (spec_l2Identity.f k a0) (spec_l2Identity.f (k+1) a0):=by
 intro a0 k
 have ih0:=spec_l2Identity.mono_l k
 unfold spec_l2Identity.f
 repeat' first
   | (with_reducible exact ih0 _ _ _)
   | (with_reducible exact spec_l2Blank.mono _ _ _)
   |(with_reducible exact LeO.refl _)|(with_reducible exact LeO.none _)|(with_reducible refine LeO.ite ?_ ?_)|(with_reducible refine LeO.bind ?_ (fun _=>?_))|exact ih0 _ _ _|exact spec_l2Blank.mono _ _ _|exact LeO.none _|refine LeO.ite ?_ ?_|refine LeO.bind ?_ (fun _=>?_)
theorem spec_l2Identity.calls (k:Nat) (a0:Int) (r:List (List Int)) (w:World) (h:spec_l2Identity.f k a0=some r) :
  Calls Try.prog 176 #[.int .i64 a0] w fun e w'=>∃ v0_:Value,e = .returned (.agg #[v0_])∧Kd.S (Kd.slice 5 (Kd.int .u8)) 57 w' w.heap.size (fun _=>True) v0_ r∧Below w.heap.size w w':=by
 have hu43:=Try.underlying43
 have HB:=am (Below.refl w.heap.size w)
 have H:((spec_l2Blank.f k a0 a0).bind fun t149=>(spec_l2Identity.l0 k (t149.length:Int) 0 t149))=some r:=h
 clear h
 replace H:=Option.bind_eq_some_iff.mp H
 obtain ⟨t149,A20,H⟩:=H
 replace H:(spec_l2Identity.l0 k (t149.length:Int) 0 t149)=some r:=H
 have A2:=am A20
 clear A20
 have H':=am H
 clear H
 go_enter Try.func176,Try.ntmps176
 go_wp2_with (first|((with_reducible refine gate_dst (N:=2) rfl ?_);refine box_event ?hg (N:=2) ?hd (cs:=#[.slice none 0 0]) (t:=43) ?hr ?_;(case hd=>rfl);(case hg=>rfl);(case hr=>first|(go_simp;done)|(go_simp;rfl));intro gb148 hg w3 hbox hb;have n0_:=am (pu d0 hb);have n1_:=am (hbox);have n2_:=am ((by rw [hg];exact (pz d0):w.heap.size≤gb148));have n3_:=n2_;clear HB;have HB:=n0_;have BK148:=n1_;have GW148:=n2_;have GE148:=n3_;clear n0_ n1_ n2_ n3_;clear hb hbox hg)|((with_reducible refine gate_callee (f:=172) rfl ?_);refine goesL_ (some 7) rfl rfl Try.func172 d3 rfl #[.int .i64 a0, .int .i64 a0] rfl d5 ?_;(with_reducible refine (spec_l2Blank.calls k a0 a0 t149 _ A2.out).mono ?_);rintro e w4 ⟨v150,rfl,ho0,hb⟩;refine ⟨_,rfl,?_⟩;have n0_:=am (Kd.S_lower ho0 (pz (by repeat (first|(with_reducible first|exact HB.out|apply pa|apply pb|apply pd|refine pt ?_ GE148.out)|exact HB.out))));have n1_:=am (qb (g:=gb148) (o:=.cells #[.slice none 0 0] 43 (0,0)) (by (with_reducible repeat (first|refine qn ?_ _|refine qd ?_|refine qa ?_ _));exact BK148.out) hb);have n2_:=am (pu (by repeat (first|(with_reducible first|exact HB.out|apply pa|apply pb|apply pd|refine pt ?_ GE148.out)|exact HB.out)) hb);clear BK148;clear HB;have HO151:=n0_;have BK148:=n1_;have HB:=n2_;clear n0_ n1_ n2_;(try clear hb);(try clear hb2);(try clear hk);(try clear hi);(try clear ho0))|((with_reducible refine gate_dst (N:=3) rfl ?_);refine box_event ?hg (N:=3) ?hd (cs:=#[.slice none 0 0]) (t:=43) ?hr ?_;(case hd=>rfl);(case hg=>rfl);(case hr=>first|(go_simp;done)|(go_simp;rfl));intro gb152 hg w5 hbox hb;have n0_:=am (Kd.S_below (by (with_reducible repeat (first|apply Kd.S_alloc|apply Kd.S_drewN|apply Kd.S_drew));exact HO151.out) hb);have n1_:=am (qb (g:=gb148) (o:=.cells #[.slice none 0 0] 43 (0,0)) (by (with_reducible repeat (first|refine qn ?_ _|refine qd ?_|refine qa ?_ _));exact BK148.out) hb);have n2_:=am (pu (by repeat (first|(with_reducible first|exact HB.out|apply pa|apply pb|apply pd|refine pt ?_ GE148.out)|exact HB.out)) hb);have n3_:=am (hbox);have n4_:=am ((by rw [hg];exact (pz (by repeat (first|(with_reducible first|exact HB.out|apply pa|apply pb|apply pd|refine pt ?_ GE148.out)|exact HB.out))):w.heap.size≤gb152));have n5_:=n4_;have n6_:=am ((by rw [hg];exact Nat.ne_of_lt (blk_lt (g:=gb148) (o:=.cells #[.slice none 0 0] 43 (0,0)) (by (with_reducible repeat (first|refine qn ?_ _|refine qd ?_|refine qa ?_ _));exact BK148.out)):gb148 ≠ gb152));have n7_:=am ((by rw [hg];exact Nat.ne_of_gt (blk_lt (g:=gb148) (o:=.cells #[.slice none 0 0] 43 (0,0)) (by (with_reducible repeat (first|refine qn ?_ _|refine qd ?_|refine qa ?_ _));exact BK148.out)):gb152 ≠ gb148));clear HO151;clear BK148;clear HB;have HO151:=n0_;have BK148:=n1_;have HB:=n2_;have BK152:=n3_;have GW152:=n4_;have GE152:=n5_;have NB148_152:=n6_;have NB152_148:=n7_;clear n0_ n1_ n2_ n3_ n4_ n5_ n6_ n7_;clear hb hbox hg;obtain ⟨Ao6,co6,eo6⟩:=Kd.S_slice HO151.out;subst eo6;have hnb7:=NB152_148.out;have hnc7:=NB148_152.out;have hcz8_0:w5.cell? ⟨gb152,0,none⟩=some (.slice none 0 0):=(blk_cell BK152.out 0).trans rfl;have hfz8_0:=blk_frozen BK152.out 0))
 go_loopg [11] k (fun kq v11 w'=>∃ (x11_1:Int) (x153000_1:List (List Int)) (u153000:Value),v11 = .int .i64 x11_1∧Aside0 (spec_l2Identity.l0 kq (t149.length:Int) x11_1 x153000_1=some r)∧Aside0 (kq≤k)∧Aside0 (Kd.S (Kd.slice 5 (Kd.int .u8)) 57 w' w.heap.size (fun _=>True) u153000 x153000_1)∧Aside0 (w'.heap[gb148]? = some (.cells #[(.slice none 0 0)] 43 (0,0)))∧Aside0 (w'.heap[gb152]? = some (.cells #[u153000] 43 (0,0)))∧Aside0 (Below w.heap.size w w'))
 case atStart=>exact ⟨(0),(t149),(.slice Ao6 t149.length co6),d2,H',⟨Nat.le_refl _⟩,⟨by (with_reducible repeat (first|apply Kd.S_alloc|apply Kd.S_drewN|apply Kd.S_drew));exact Kd.S_mono (Kd.S_far (p:=⟨gb152,0,none⟩) (Kd.S_types HO151.out BK152.out d11) (fun _ hk=>hk.2) (.slice Ao6 t149.length co6)) (fun _ hk=>trivial)⟩,⟨by (with_reducible repeat (first|refine qn ?_ _|refine qd ?_|refine qa ?_ _));refine blk_far ?_ NB148_152.out _;(with_reducible repeat (first|refine qn ?_ _|refine qd ?_|refine qa ?_ _));exact BK148.out⟩,⟨by (with_reducible repeat (first|refine qn ?_ _|refine qd ?_|refine qa ?_ _));refine blk_put (cs:=#[.slice none 0 0]) ?_ 0 _ rfl;(with_reducible repeat (first|refine qn ?_ _|refine qd ?_|refine qa ?_ _));exact BK152.out⟩,⟨by repeat (first|(with_reducible first|exact HB.out|apply pa|apply pb|apply pd|refine pt ?_ GE148.out|refine pt ?_ GE152.out)|exact HB.out)⟩⟩
 case round =>
  clear H'
  try clear c1
  try clear p2
  try clear c7
  try clear hcz8_0
  try clear hfz8_0
  obtain ⟨x11_1,x153000_1,u153000,rfl,HA,HK1,HO_153000,BK148,BK152,HB⟩:=hrel
  cases gk with
  | zero=>exact absurd HA.out (by simp [spec_l2Identity.l0])
  | succ k1 =>
   have H:=HA.out
   clear HA
   simp only [spec_l2Identity.l0] at H
   by_cases c9:x11_1 < (t149.length:Int)
   ·rw [if_pos c9] at H
    have c9b0:decide (x11_1 < (t149.length:Int))=true:=decide_eq_true c9
    clear c9
    by_cases c10:0≤x11_1
    ·rw [if_pos c10] at H
     have c10b0:decide (0≤x11_1)=true:=decide_eq_true c10
     clear c10
     by_cases c11:x11_1 < (x153000_1.length:Int)
     ·rw [if_pos c11] at H
      have c11b0:decide (x11_1 < (x153000_1.length:Int))=true:=decide_eq_true c11
      clear c11
      by_cases c12:x11_1 < ((rd_L2 x153000_1 x11_1).length:Int)
      ·rw [if_pos c12] at H
       have c12b0:decide (x11_1 < ((rd_L2 x153000_1 x11_1).length:Int))=true:=decide_eq_true c12
       clear c12
       obtain ⟨y154,hy154⟩:∃ y_:List Int,y_=((rd_L2 x153000_1 x11_1).set (x11_1:Int).toNat 1):=⟨_,rfl⟩
       replace H:(spec_l2Identity.l0 k1 (t149.length:Int) (wrap64 (x11_1+1)) (x153000_1.set (x11_1:Int).toNat y154))=some r:=by first|(rw [hy154];with_reducible exact H)|(have H2_:=(Option.bind_some _ _).symm.trans H;rw [hy154];with_reducible exact H2_)|(have H2_:=(Option.bind_some _ _).symm.trans H;with_reducible exact H2_)|with_reducible exact H|(rw [hy154];exact H)|exact H
       have Ny154:=am hy154
       clear hy154
       obtain ⟨y156,hy156⟩:∃ y_:List (List Int),y_=(x153000_1.set (x11_1:Int).toNat y154):=⟨_,rfl⟩
       replace H:(spec_l2Identity.l0 k1 (t149.length:Int) (wrap64 (x11_1+1)) y156)=some r:=by first|(rw [hy156];with_reducible exact H)|(have H2_:=(Option.bind_some _ _).symm.trans H;rw [hy156];with_reducible exact H2_)|(have H2_:=(Option.bind_some _ _).symm.trans H;with_reducible exact H2_)|with_reducible exact H|(rw [hy156];exact H)|exact H
       have Ny156:=am hy156
       clear hy156
       have H':=am H
       clear H
       have hnb14:=NB152_148.out
       have hnc14:=NB148_152.out
       have hcz15_0:wr.cell? ⟨gb152,0,none⟩=some (u153000):=(blk_cell BK152.out 0).trans rfl
       have hfz15_0:=blk_frozen BK152.out 0
       obtain ⟨Ao16,co16,eo16⟩:=Kd.S_slice HO_153000.out
       subst eo16
       have p153:0≤(x11_1:Int):=od d1
       have q153:x11_1 < (x153000_1.length:Int):=od d1
       obtain ⟨ad153,A153_0,c153_0,e153,hx153_0,hl153_0,hi153_0⟩:=at_L2 (Kd.S_reads' HO_153000.out).2.2 x11_1 p153 q153
       cases e153
       obtain ⟨ce153,hce153,hMe153,hcc153⟩:=Kd.S_get HO_153000.out [] x11_1 p153 (by first|exact q153|exact od d1|(have e_:=(Kd.S_reads' HO_153000.out).1;omega))
       obtain ⟨ve153_0,rfl,ge153_0⟩:=hMe153
       have hv153_0:=hcc153 0 _ rfl
       rw [Nat.add_zero,show ((Kd.slice 5 (Kd.int .u8))).sz=1 from rfl,Nat.mul_one] at hv153_0
       replace hv153_0:=Option.some.inj (hv153_0.symm.trans hx153_0)
       rw [hv153_0] at ge153_0
       have HL153_0:=am (show Kd.R (Kd.int .u8) 5 _ _ _ _ (rd_L2 x153000_1 x11_1) from ge153_0)
       clear hv153_0 ge153_0
       have HX153_0:=am hx153_0
       clear hcc153 hce153
       have HR153_0:=am hi153_0
       have HC153_0:=am hl153_0
       clear hi153_0 hl153_0
       replace p153:=eq_true p153
       replace q153:=eq_true q153
       have p13:0≤(x11_1:Int):=od d1
       have q13:(x11_1:Int) < (((rd_L2 x153000_1 x11_1).length:Int):Int):=od d1
       obtain ⟨go13,co13,eo13,gb13,gl13,cl13,HG13⟩:=Kd.R_form HL153_0.out d10
       (first|cases eo13|(injection eo13 with ea_ en_ ec_;(first|subst ea_|(injection ea_ with ea_;subst ea_));subst ec_;clear en_))
       have GB13:=am gb13
       have GG13:=am HG13
       clear gb13 gl13 HG13
       obtain ⟨hx13_0,hf13_0⟩:=Kd.R_celln 0 HL153_0.out (x11_1:Int) p13 q13
       replace p13:=eq_true p13
       replace q13:=eq_true q13
       have hq17:(x11_1:Int) < (x153000_1.length:Int):=(by have h_:(x11_1:Int) < ((x153000_1.length:Int):Int):=od d1;first|exact h_|(have e_:=(Kd.S_reads' HO_153000.out).1;omega)|simpa only [List.length_set,List.length_set] using h_)
       obtain ⟨oki17,ce17,hcl17,hM17,hcc17,hok17,hbk17⟩:=Kd.S_borrow HO_153000.out [] (x11_1:Int) (od d1) hq17
       obtain ⟨ve17_0,rfl,ge17_0⟩:=hM17
       have hv17:=hcc17 0 _ rfl
       rw [Nat.add_zero,show ((Kd.slice 5 (Kd.int .u8))).sz=1 from rfl,Nat.mul_one] at hv17
       replace hv17:=Option.some.inj (hv17.symm.trans HX153_0.out)
       subst hv17
       clear hcc17 hcl17
       replace ge17_0:=(show Kd.R (Kd.int .u8) 5 _ _ _ _ (rd_L2 x153000_1 x11_1) from ge17_0)
       have HP17:=Kd.R_putg ge17_0 (x11_1:Int) 1
       go_wp2_with (first|((with_reducible refine gate_store (t:=5) (p:=20) rfl ?_);refine store_event (t:=5) (p:=20) (v:=?vo_w18) (w1:=(wr.setCell ⟨go13,(x11_1:Int).toNat,none⟩ (.int .u8 1))) ?hg ?ho ?hn ?hr ?_;(case ho=>rfl);(case hg=>rfl);(case hn=>rfl);(case hr=>first|(go_simp;done)|(go_simp;rfl));intro w18 hw;have hg:wr.grownBy w18 (some go13):=(by rw [hw];exact HP17.2);have hz_:Kd.R (Kd.int .u8) 5 w18 w.heap.size oki17 (.slice (some ⟨go13,0,none⟩) (rd_L2 x153000_1 x11_1).length c153_0) y154:=(by rw [hw,Ny154.out];exact HP17.1);have hp_:Kd.S (Kd.slice 5 (Kd.int .u8)) 57 w18 w.heap.size (fun _=>True) (.slice (some ad153) x153000_1.length co16) y156:=(by rw [Ny156.out];exact hbk17 hg (fun k_ e_=>by injection e_ with e_;subst e_;exact ge17_0.1 _ rfl) (Kd.M_row hz_));have hm_:=Kd.R_mono hz_ hok17;clear HP17 hbk17;have n0_:=am (hp_);have n1_:=am (blk_grown (g:=gb148) (o:=.cells #[.slice none 0 0] 43 (0,0)) (by (with_reducible repeat (first|refine qn ?_ _|refine qd ?_|refine qa ?_ _));exact BK148.out) hg (Kd.R_ne HL153_0.out BK148.out d11));have n2_:=am (blk_grown (g:=gb152) (o:=.cells #[.slice (some ad153) x153000_1.length co16] 43 (0,0)) (by (with_reducible repeat (first|refine qn ?_ _|refine qd ?_|refine qa ?_ _));exact BK152.out) hg (Kd.R_ne HL153_0.out BK152.out d11));have n3_:=am ((by rw [hw];exact pt (HB.out) GB13.out:Below w.heap.size w w18));have n4_:=am (hm_);have n5_:=am ((Kd.R_reads' hm_).2.1);clear HO_153000;clear BK148;clear BK152;clear HB;clear HL153_0;have HO_153000:=n0_;have BK148:=n1_;have BK152:=n2_;have HB:=n3_;have HL157:=n4_;have HC155:=n5_;clear n0_ n1_ n2_ n3_ n4_ n5_;clear hg hw hp_ hz_ hm_ hok17))
       go_roundg k1
       case measure=>have:=HK1.out;omega
       case rel=>exact ⟨(wrap64 (x11_1+1)),(y156),(.slice (some ad153) x153000_1.length co16),d2,H',⟨d30⟩,⟨by (with_reducible repeat (first|apply Kd.S_alloc|apply Kd.S_drewN|apply Kd.S_drew));exact HO_153000.out⟩,⟨by (with_reducible repeat (first|refine qn ?_ _|refine qd ?_|refine qa ?_ _));exact BK148.out⟩,⟨by (with_reducible repeat (first|refine qn ?_ _|refine qd ?_|refine qa ?_ _));exact BK152.out⟩,⟨by repeat (first|(with_reducible first|exact HB.out|apply pa|apply pb|apply pd|refine pt ?_ GE148.out|refine pt ?_ GE152.out)|exact HB.out)⟩⟩
      rw [if_neg c12] at H
      exact absurd H d20
     rw [if_neg c11] at H
     exact absurd H d20
    rw [if_neg c10] at H
    exact absurd H d20
   rw [if_neg c9] at H
   have c9b0:decide (x11_1 < (t149.length:Int))=false:=decide_eq_false c9
   clear c9
   obtain rfl:=Option.some.inj H
   have hnb19:=NB152_148.out
   have hnc19:=NB148_152.out
   have hcz20_0:wr.cell? ⟨gb152,0,none⟩=some (u153000):=(blk_cell BK152.out 0).trans rfl
   have hfz20_0:=blk_frozen BK152.out 0
   obtain ⟨Ao21,co21,eo21⟩:=Kd.S_slice HO_153000.out
   subst eo21
   have hcz22_0:wr.cell? ⟨gb148,0,none⟩=some (.slice none 0 0):=(blk_cell BK148.out 0).trans rfl
   have hfz22_0:=blk_frozen BK148.out 0
   go_wp2
   refine bodyPost_ret (results_cell_row rfl _ _ gb148 43 #[.slice Ao21 x153000_1.length co21] (0,0) _ rfl (by (with_reducible repeat (first|refine qn ?_ _|refine qd ?_|refine qa ?_ _));refine blk_put (cs:=#[.slice none 0 0]) ?_ 0 _ rfl;(with_reducible repeat (first|refine qn ?_ _|refine qd ?_|refine qa ?_ _));exact BK148.out) Try.underlying43 rfl d3) rfl ?_
   exact ⟨_,d4,by (with_reducible repeat (first|apply Kd.S_alloc|apply Kd.S_drewN|apply Kd.S_drew));exact Kd.S_mono (Kd.S_far (p:=⟨gb148,0,none⟩) (Kd.S_types HO_153000.out BK148.out d11) (fun _ hk=>hk.2) (.slice Ao21 x153000_1.length co21)) (fun _ hk=>trivial),by repeat (first|(with_reducible first|exact HB.out|apply pa|apply pb|apply pd|refine pt ?_ GE148.out|refine pt ?_ GE152.out)|exact HB.out)⟩

end Go.Proofs.Ytajikfnpcobnpaa.PFnExactDecodeMsr
-- HALVED
-- SQUEEZED
-- SQUEEZED2
-- SQUEEZED3
-- SQUEEZED4
-- SQUEEZED5
-- SQUEEZED6
