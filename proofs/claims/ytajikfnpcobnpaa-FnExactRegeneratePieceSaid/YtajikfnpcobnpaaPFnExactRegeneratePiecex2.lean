-- Laid by a program of this session.
import Derived.Test.YtajikfnpcobnpaaPFnExactRegeneratePiecex0
import Derived.Test.YtajikfnpcobnpaaPFnExactRegeneratePiecex1
namespace Go.Proofs.Ytajikfnpcobnpaa.PFnExactRegeneratePiece
open Go.RowKit Go.Proofs.YtajikfnpcobnpaaW.PrintWords Go.Proofs.YtajikfnpcobnpaaW.PrintLast Go.Proofs.YtajikfnpcobnpaaW.PrintMore
attribute [local go_sem] max2_int min2_int max_two min_two max_three min_three max_four min_four   -- for this text's walks alone
set_option linter.unusedVariables false
set_option maxHeartbeats 8000000
set_option maxRecDepth 100000
set_option linter.unusedSimpArgs false

def spec_l2Own.l0:Nat→List (List Int)→Int→Int→List (List Int)→Option ((List (List Int)))
 | 0,_,_,_,_=>none
 | k+1,x8,x9,x10,x117000=>if x10 < x9 then (if 0≤x10 then (if x10 < (x8.length:Int) then ((some (([]:List Int):List Int)).bind fun y118=>(if y118.length+(rd_L3 x8 x10).length < 140737488355328 then (if x117000.length < 5864062014805 then (spec_l2Own.l0 k x8 x9 (wrap64 (x10+1)) (x117000 ++ [(y118 ++ (rd_L3 x8 x10))])) else (none)) else (none))) else (none)) else (none)) else (some x117000)
def spec_l2Own.f (k:Nat) (l0_0:List (List Int)):Option ((List (List Int))):=spec_l2Own.l0 k l0_0 (l0_0.length:Int) 0 ([]:List (List Int))
theorem spec_l2Own.mono_l:∀ k,(∀ y0 y1 y2 y3,LeO (spec_l2Own.l0 k y0 y1 y2 y3) (spec_l2Own.l0 (k+1) y0 y1 y2 y3))
 | 0=>fun _ _ _ _ r h=>by simp [spec_l2Own.l0] at h
 | k+1=>by
  have ih0:=spec_l2Own.mono_l k
  intro y0 y1 y2 y3
  unfold spec_l2Own.l0
  repeat' first
  | (with_reducible exact ih0 _ _ _ _)
  |(with_reducible exact LeO.refl _)|(with_reducible exact LeO.none _)|(with_reducible refine LeO.ite ?_ ?_)|(with_reducible refine LeO.bind ?_ (fun _=>?_))|exact ih0 _ _ _ _|exact LeO.none _|refine LeO.ite ?_ ?_|refine LeO.bind ?_ (fun _=>?_)
theorem spec_l2Own.mono:∀ a0 k,LeO (spec_l2Own.f k a0) (spec_l2Own.f (k+1) a0):=by
 intro a0 k
 have ih0:=spec_l2Own.mono_l k
 unfold spec_l2Own.f
 repeat' first
   | (with_reducible exact ih0 _ _ _ _)
   |(with_reducible exact LeO.refl _)|(with_reducible exact LeO.none _)|(with_reducible refine LeO.ite ?_ ?_)|(with_reducible refine LeO.bind ?_ (fun _=>?_))|exact ih0 _ _ _ _|exact LeO.none _|refine LeO.ite ?_ ?_|refine LeO.bind ?_ (fun _=>?_)
def spec_l2Own.T5:Bool × List (List Nat × List Nat):=(true,[([],[]),([0],[0]),([],[]),([],[]),([2,3],[2,3]),([4],[4]),([1,5,4],[1,5]),([0,1,2,3,4,5,6],[]),([7,6,6,0,1,2,3,4,5,6],[6,7])])
def spec_l2Own.B5:List Nat:=[0,1,0,0,12,28,63,127,255]
theorem spec_l2Own.tab5:rtab .any (opsOf Try.f202 5)=spec_l2Own.T5:=by kernel_rfl
theorem spec_l2Own.bits5:waitsOk spec_l2Own.T5.2 spec_l2Own.B5=true:=by kernel_rfl
theorem spec_l2Own.calls (k:Nat) (A0_0:Option Addr) (c0_0:Nat) (l0_0:List (List Int)) (r:List (List Int)) (w:World) (hr0_0:Kd.C (Kd.slice 5 (Kd.int .u8)) w A0_0 l0_0.length l0_0) (hc0_0:l0_0.length≤c0_0) (h:spec_l2Own.f k l0_0=some r) :
  Calls Try.prog 202 #[.agg #[.slice A0_0 l0_0.length c0_0]] w fun e w'=>∃ v0_:Value,e = .returned (.agg #[v0_])∧Kd.S (Kd.slice 5 (Kd.int .u8)) 57 w' w.heap.size (fun _=>True) v0_ r∧Below w.heap.size w w':=by
 have hu43:=Try.underlying43
 have HR0_0:=am hr0_0
 have HC0_0:=am hc0_0
 clear hr0_0 hc0_0
 have HB:=am (Below.refl w.heap.size w)
 have H:(spec_l2Own.l0 k l0_0 (l0_0.length:Int) 0 ([]:List (List Int)))=some r:=h
 clear h
 have H':=am H
 clear H
 go_enter Try.func202,Try.ntmps202
 go_wp2_with (first|((with_reducible refine gate_dst (N:=1) rfl ?_);refine box_event ?hg (N:=1) ?hd (cs:=#[.slice A0_0 l0_0.length c0_0]) (t:=43) ?hr ?_;(case hd=>rfl);(case hg=>rfl);(case hr=>first|(go_simp;done)|(go_simp;rfl));intro gb114 hg w2 hbox hb;have n0_:=am (pu d0 hb);have n1_:=am (hbox);have n2_:=am ((by rw [hg];exact (pz d0):w.heap.size≤gb114));have n3_:=n2_;clear HB;have HB:=n0_;have BK114:=n1_;have GW114:=n2_;have GE114:=n3_;clear n0_ n1_ n2_ n3_;clear hb hbox hg)|((with_reducible refine gate_dst (N:=2) rfl ?_);refine box_event ?hg (N:=2) ?hd (cs:=#[.slice none 0 0]) (t:=43) ?hr ?_;(case hd=>rfl);(case hg=>rfl);(case hr=>first|(go_simp;done)|(go_simp;rfl));intro gb115 hg w3 hbox hb;have n0_:=am (qb (g:=gb114) (o:=.cells #[.slice A0_0 l0_0.length c0_0] 43 (0,0)) (by (with_reducible repeat (first|refine qn ?_ _|refine qd ?_|refine qa ?_ _));exact BK114.out) hb);have n1_:=am (pu (by repeat (first|(with_reducible first|exact HB.out|apply pa|apply pb|apply pd|refine pt ?_ GE114.out)|exact HB.out)) hb);have n2_:=am (hbox);have n3_:=am ((by rw [hg];exact (pz (by repeat (first|(with_reducible first|exact HB.out|apply pa|apply pb|apply pd|refine pt ?_ GE114.out)|exact HB.out))):w.heap.size≤gb115));have n4_:=n3_;have n5_:=am ((by rw [hg];exact Nat.ne_of_lt (blk_lt (g:=gb114) (o:=.cells #[.slice A0_0 l0_0.length c0_0] 43 (0,0)) (by (with_reducible repeat (first|refine qn ?_ _|refine qd ?_|refine qa ?_ _));exact BK114.out)):gb114 ≠ gb115));have n6_:=am ((by rw [hg];exact Nat.ne_of_gt (blk_lt (g:=gb114) (o:=.cells #[.slice A0_0 l0_0.length c0_0] 43 (0,0)) (by (with_reducible repeat (first|refine qn ?_ _|refine qd ?_|refine qa ?_ _));exact BK114.out)):gb115 ≠ gb114));clear BK114;clear HB;have BK114:=n0_;have HB:=n1_;have BK115:=n2_;have GW115:=n3_;have GE115:=n4_;have NB114_115:=n5_;have NB115_114:=n6_;clear n0_ n1_ n2_ n3_ n4_ n5_ n6_;clear hb hbox hg)|((with_reducible refine gate_dst (N:=3) rfl ?_);refine box_event ?hg (N:=3) ?hd (cs:=#[.slice none 0 0]) (t:=43) ?hr ?_;(case hd=>rfl);(case hg=>rfl);(case hr=>first|(go_simp;done)|(go_simp;rfl));intro gb116 hg w4 hbox hb;have n0_:=am (qb (g:=gb114) (o:=.cells #[.slice A0_0 l0_0.length c0_0] 43 (0,0)) (by (with_reducible repeat (first|refine qn ?_ _|refine qd ?_|refine qa ?_ _));exact BK114.out) hb);have n1_:=am (qb (g:=gb115) (o:=.cells #[.slice none 0 0] 43 (0,0)) (by (with_reducible repeat (first|refine qn ?_ _|refine qd ?_|refine qa ?_ _));exact BK115.out) hb);have n2_:=am (pu (by repeat (first|(with_reducible first|exact HB.out|apply pa|apply pb|apply pd|refine pt ?_ GE114.out|refine pt ?_ GE115.out)|exact HB.out)) hb);have n3_:=am (hbox);have n4_:=am ((by rw [hg];exact (pz (by repeat (first|(with_reducible first|exact HB.out|apply pa|apply pb|apply pd|refine pt ?_ GE114.out|refine pt ?_ GE115.out)|exact HB.out))):w.heap.size≤gb116));have n5_:=n4_;have n6_:=am ((by rw [hg];exact Nat.ne_of_lt (blk_lt (g:=gb114) (o:=.cells #[.slice A0_0 l0_0.length c0_0] 43 (0,0)) (by (with_reducible repeat (first|refine qn ?_ _|refine qd ?_|refine qa ?_ _));exact BK114.out)):gb114 ≠ gb116));have n7_:=am ((by rw [hg];exact Nat.ne_of_gt (blk_lt (g:=gb114) (o:=.cells #[.slice A0_0 l0_0.length c0_0] 43 (0,0)) (by (with_reducible repeat (first|refine qn ?_ _|refine qd ?_|refine qa ?_ _));exact BK114.out)):gb116 ≠ gb114));have n8_:=am ((by rw [hg];exact Nat.ne_of_lt (blk_lt (g:=gb115) (o:=.cells #[.slice none 0 0] 43 (0,0)) (by (with_reducible repeat (first|refine qn ?_ _|refine qd ?_|refine qa ?_ _));exact BK115.out)):gb115 ≠ gb116));have n9_:=am ((by rw [hg];exact Nat.ne_of_gt (blk_lt (g:=gb115) (o:=.cells #[.slice none 0 0] 43 (0,0)) (by (with_reducible repeat (first|refine qn ?_ _|refine qd ?_|refine qa ?_ _));exact BK115.out)):gb116 ≠ gb115));clear BK114;clear BK115;clear HB;have BK114:=n0_;have BK115:=n1_;have HB:=n2_;have BK116:=n3_;have GW116:=n4_;have GE116:=n5_;have NB114_116:=n6_;have NB116_114:=n7_;have NB115_116:=n8_;have NB116_115:=n9_;clear n0_ n1_ n2_ n3_ n4_ n5_ n6_ n7_ n8_ n9_;clear hb hbox hg;have hnb5:=NB116_114.out;have hnc5:=NB114_116.out;have hnb6:=NB116_115.out;have hnc6:=NB115_116.out;have hcz7_0:w4.cell? ⟨gb116,0,none⟩=some (.slice none 0 0):=(blk_cell BK116.out 0).trans rfl;have hfz7_0:=blk_frozen BK116.out 0;have hnb8:=NB114_115.out;have hnc8:=NB115_114.out;have hcz9_0:w4.cell? ⟨gb114,0,none⟩=some (.slice A0_0 l0_0.length c0_0):=(blk_cell BK114.out 0).trans rfl;have hfz9_0:=blk_frozen BK114.out 0))
 go_loopg [10] k (fun kq v10 w'=>∃ (x10_1:Int) (x117000_1:List (List Int)) (u117000:Value),v10 = .int .i64 x10_1∧Aside0 (spec_l2Own.l0 kq l0_0 (l0_0.length:Int) x10_1 x117000_1=some r)∧Aside0 (kq≤k)∧Aside0 (Kd.S (Kd.slice 5 (Kd.int .u8)) 57 w' w.heap.size (fun _=>True) u117000 x117000_1)∧Aside0 (w'.heap[gb114]? = some (.cells #[(.slice A0_0 l0_0.length c0_0)] 43 (0,0)))∧Aside0 (w'.heap[gb115]? = some (.cells #[(.slice none 0 0)] 43 (0,0)))∧Aside0 (w'.heap[gb116]? = some (.cells #[u117000] 43 (0,0)))∧Aside0 (Below w.heap.size w w'))
 case atStart=>exact ⟨(0),(([]:List (List Int))),(.slice none 0 0),d4,H',⟨Nat.le_refl _⟩,⟨d55⟩,⟨by (with_reducible repeat (first|refine qn ?_ _|refine qd ?_|refine qa ?_ _));refine blk_far ?_ NB114_116.out _;(with_reducible repeat (first|refine qn ?_ _|refine qd ?_|refine qa ?_ _));exact BK114.out⟩,⟨by (with_reducible repeat (first|refine qn ?_ _|refine qd ?_|refine qa ?_ _));refine blk_far ?_ NB115_116.out _;(with_reducible repeat (first|refine qn ?_ _|refine qd ?_|refine qa ?_ _));exact BK115.out⟩,⟨by (with_reducible repeat (first|refine qn ?_ _|refine qd ?_|refine qa ?_ _));refine blk_put (cs:=#[.slice none 0 0]) ?_ 0 _ rfl;(with_reducible repeat (first|refine qn ?_ _|refine qd ?_|refine qa ?_ _));exact BK116.out⟩,⟨by repeat (first|(with_reducible first|exact HB.out|apply pa|apply pb|apply pd|refine pt ?_ GE114.out|refine pt ?_ GE115.out|refine pt ?_ GE116.out)|exact HB.out)⟩⟩
 case round =>
  clear H'
  try clear c2
  try clear p2
  try clear c5
  try clear c6
  try clear c8
  try clear hcz7_0
  try clear hcz9_0
  try clear hfz7_0
  try clear hfz9_0
  obtain ⟨x10_1,x117000_1,u117000,rfl,HA,HK1,HO_117000,BK114,BK115,BK116,HB⟩:=hrel
  cases gk with
  | zero=>exact absurd HA.out (by simp [spec_l2Own.l0])
  | succ k1 =>
   have H:=HA.out
   clear HA
   simp only [spec_l2Own.l0] at H
   by_cases c10:x10_1 < (l0_0.length:Int)
   ·rw [if_pos c10] at H
    have c10b0:decide (x10_1 < (l0_0.length:Int))=true:=decide_eq_true c10
    clear c10
    by_cases c11:0≤x10_1
    ·rw [if_pos c11] at H
     have c11b0:decide (0≤x10_1)=true:=decide_eq_true c11
     clear c11
     by_cases c12:x10_1 < (l0_0.length:Int)
     ·rw [if_pos c12] at H
      have c12b0:decide (x10_1 < (l0_0.length:Int))=true:=decide_eq_true c12
      clear c12
      obtain ⟨y118,hy118⟩:∃ y_:List Int,y_=(([]:List Int)):=⟨_,rfl⟩
      replace H:(if y118.length+(rd_L3 l0_0 x10_1).length < 140737488355328 then (if x117000_1.length < 5864062014805 then (spec_l2Own.l0 k1 l0_0 (l0_0.length:Int) (wrap64 (x10_1+1)) (x117000_1 ++ [(y118 ++ (rd_L3 l0_0 x10_1))])) else (none)) else (none))=some r:=by first|(rw [hy118];with_reducible exact H)|(have H2_:=(Option.bind_some _ _).symm.trans H;rw [hy118];with_reducible exact H2_)|(have H2_:=(Option.bind_some _ _).symm.trans H;with_reducible exact H2_)|with_reducible exact H|(rw [hy118];exact H)|exact H
      have Ny118:=am hy118
      clear hy118
      by_cases c13:y118.length+(rd_L3 l0_0 x10_1).length < 140737488355328
      ·rw [if_pos c13] at H
       have LMc13:=am c13
       clear c13
       obtain ⟨y121,hy121⟩:∃ y_:List Int,y_=(y118 ++ (rd_L3 l0_0 x10_1)):=⟨_,rfl⟩
       replace H:(if x117000_1.length < 5864062014805 then (spec_l2Own.l0 k1 l0_0 (l0_0.length:Int) (wrap64 (x10_1+1)) (x117000_1 ++ [y121])) else (none))=some r:=by first|(rw [hy121];with_reducible exact H)|(have H2_:=(Option.bind_some _ _).symm.trans H;rw [hy121];with_reducible exact H2_)|(have H2_:=(Option.bind_some _ _).symm.trans H;with_reducible exact H2_)|with_reducible exact H|(rw [hy121];exact H)|exact H
       have Ny121:=am hy121
       clear hy121
       by_cases c14:x117000_1.length < 5864062014805
       ·rw [if_pos c14] at H
        have LMc14:=am c14
        clear c14
        obtain ⟨y124,hy124⟩:∃ y_:List (List Int),y_=(x117000_1 ++ [y121]):=⟨_,rfl⟩
        replace H:(spec_l2Own.l0 k1 l0_0 (l0_0.length:Int) (wrap64 (x10_1+1)) y124)=some r:=by first|(rw [hy124];with_reducible exact H)|(have H2_:=(Option.bind_some _ _).symm.trans H;rw [hy124];with_reducible exact H2_)|(have H2_:=(Option.bind_some _ _).symm.trans H;with_reducible exact H2_)|with_reducible exact H|(rw [hy124];exact H)|exact H
        have Ny124:=am hy124
        clear hy124
        have H':=am H
        clear H
        have p117:0≤(x10_1:Int):=od d2
        have q117:x10_1 < (l0_0.length:Int):=od d2
        obtain ⟨ad117,A117_0,c117_0,e117,hx117_0,hl117_0,hi117_0⟩:=at_L3 HR0_0.out x10_1 p117 q117
        cases e117
        replace hx117_0:=(HB.out.cell (World.block_lt_of_cell? w _ hx117_0)).trans hx117_0
        have HR117_0:=am hi117_0
        have HC117_0:=am hl117_0
        clear hi117_0 hl117_0
        replace p117:=eq_true p117
        replace q117:=eq_true q117
        try go_wp2
        have n0_:=am (Kd.S_drew HO_117000.out)
        have n1_:=am (qd BK114.out)
        have n2_:=am (qd BK115.out)
        have n3_:=am (qd BK116.out)
        have n4_:=am (pd HB.out)
        clear HO_117000
        clear BK114
        clear BK115
        clear BK116
        clear HB
        have HO_117000:=n0_
        have BK114:=n1_
        have BK115:=n2_
        have BK116:=n3_
        have HB:=n4_
        clear n0_ n1_ n2_ n3_ n4_
        refine rS (n:=9) (S:=fun w'=>w'.cell? ⟨gb116,0,none⟩=some (u117000)) (ds:=[8]) [(0,14),(3,17),(1,15),(2,0),(4,0),(5,0),(6,0),(7,21),(8,0)] d3 rfl spec_l2Own.tab5 spec_l2Own.bits5 ((blk_cell BK116.out 0).trans rfl) (fun hHeld HT_ HW_=>?_)
        generalize wr.drew=w15 at HO_117000 BK114 BK115 BK116 HB hHeld ⊢
        refine rR ?_
        refine rO (N:=some 16) HT_ rfl rfl d3 d8 (fun K hK=>?_)
        refine Kd.R_lit_step (Kd.int .u8) _ 5 ?hg (N:=16) ?hd (xs:=([]:List Int)) (inner:=[]) (ok:=fun _=>True) (okp:=fun _=>True) ?hr ?hp (fun _ hk=>hk) trivial (Below.refl _ _) (Nat.le_refl _) d31 ?_;(case hd=>rfl);(case hg=>rfl);(case hr=>first|(go_simp;done)|(go_simp;rfl));(case hp=>exact (Reps.none _ _))
        intro v119 w16 ho17 hb hg_ hnew_
        clear hg_ hnew_
        (first|rw [← Ny118.out] at ho17|(simp only [Int.reduceToNat] at ho17;rw [← Ny118.out] at ho17))
        have n0_:=am (Kd.S_elder' (by (with_reducible repeat (first|apply Kd.S_alloc|apply Kd.S_drewN|apply Kd.S_drew));exact HO_117000.out) (Kd.R_base ho17) hb)
        have n1_:=am (Kd.R_lower ho17 (pz (by repeat (first|(with_reducible first|exact HB.out|apply pa|apply pb|apply pd|refine pt ?_ GE114.out|refine pt ?_ GE115.out|refine pt ?_ GE116.out)|exact HB.out))))
        have n2_:=am (qb (g:=gb114) (o:=.cells #[.slice (some ad117) l0_0.length c0_0] 43 (0,0)) (by (with_reducible repeat (first|refine qn ?_ _|refine qd ?_|refine qa ?_ _));exact BK114.out) hb)
        have n3_:=am (qb (g:=gb115) (o:=.cells #[.slice none 0 0] 43 (0,0)) (by (with_reducible repeat (first|refine qn ?_ _|refine qd ?_|refine qa ?_ _));exact BK115.out) hb)
        have n4_:=am (qb (g:=gb116) (o:=.cells #[u117000] 43 (0,0)) (by (with_reducible repeat (first|refine qn ?_ _|refine qd ?_|refine qa ?_ _));exact BK116.out) hb)
        have n5_:=am (pu (by repeat (first|(with_reducible first|exact HB.out|apply pa|apply pb|apply pd|refine pt ?_ GE114.out|refine pt ?_ GE115.out|refine pt ?_ GE116.out)|exact HB.out)) hb)
        clear HO_117000
        clear BK114
        clear BK115
        clear BK116
        clear HB
        have HO_117000:=n0_
        have HO120:=n1_
        have BK114:=n2_
        have BK115:=n3_
        have BK116:=n4_
        have HB:=n5_
        clear n0_ n1_ n2_ n3_ n4_ n5_
        clear hb ho17
        refine hK.out _ _ ((blk_cell BK116.out 0).trans rfl) (fun hHeld=>?_)
        clear hK K
        refine rN (a':=?_) ?_ ?_
        rotate_left
        ·show Act.put _ (some 16) _=_
         simp only [Act.put,q1,q2,q3,i64_w,i32_w]
         rfl
        refine rO (N:=some 18) HT_ rfl rfl d3 d8 (fun K hK=>?_)
        refine Kd.R_append_rows_step (Kd.int .u8) (w0:=w) w.heap.size d20 (.tmp 16) (.tmp 17) 57 5 (.int .u8 0) 1 rfl Try.underlying57 info5 rfl d8 d15 v119 y118 (rd_L3 l0_0 x10_1) _ _ _ (fun _=>True) (fun _=>False) rfl rfl ?aO ?aR (fun _ _ h=>h) (fun _ h=>h.elim) ?aF ?aB ?aS ?aL ?_
        (case aR=>repeat (first|exact (Kd.C_below HR117_0.out HB.out)|(with_reducible refine Kd.C_alloc ?_ _)|(with_reducible refine Kd.C_drewN ?_ _)|(with_reducible refine Kd.C_drew ?_)))
        (case aB=>exact (by repeat (first|(with_reducible first|exact HB.out|apply pa|apply pb|apply pd|refine pt ?_ GE114.out|refine pt ?_ GE115.out|refine pt ?_ GE116.out)|exact HB.out)))
        (case aF=>exact (fun _ _=>trivial))
        (case aO=>exact (by (with_reducible repeat (first|apply Kd.R_alloc|apply Kd.R_drewN|apply Kd.R_drew));exact HO120.out))
        (case aS=>exact (pz (by repeat (first|(with_reducible first|exact HB.out|apply pa|apply pb|apply pd|refine pt ?_ GE114.out|refine pt ?_ GE115.out|refine pt ?_ GE116.out)|exact HB.out))))
        (case aL=>have:=LMc13.out;omega)
        intro v122 w18 ho hb hg hat
        rw [← Ny121.out] at ho
        have n0_:=am (Kd.S_after (ok:=(fun _=>True)) (by (with_reducible repeat (first|apply Kd.S_alloc|apply Kd.S_drewN|apply Kd.S_drew));exact HO_117000.out) hg hat)
        have n1_:=am (blk_grown (g:=gb114) (o:=.cells #[.slice (some ad117) l0_0.length c0_0] 43 (0,0)) (by (with_reducible repeat (first|refine qn ?_ _|refine qd ?_|refine qa ?_ _));exact BK114.out) hg (Kd.R_ne HO120.out BK114.out d8))
        have n2_:=am (blk_grown (g:=gb115) (o:=.cells #[.slice none 0 0] 43 (0,0)) (by (with_reducible repeat (first|refine qn ?_ _|refine qd ?_|refine qa ?_ _));exact BK115.out) hg (Kd.R_ne HO120.out BK115.out d8))
        have n3_:=am (blk_grown (g:=gb116) (o:=.cells #[u117000] 43 (0,0)) (by (with_reducible repeat (first|refine qn ?_ _|refine qd ?_|refine qa ?_ _));exact BK116.out) hg (Kd.R_ne HO120.out BK116.out d8))
        have n4_:=am (hb)
        have n5_:=am (ho)
        clear HO_117000
        clear BK114
        clear BK115
        clear BK116
        clear HB
        clear HO120
        have HO_117000:=n0_
        have BK114:=n1_
        have BK115:=n2_
        have BK116:=n3_
        have HB:=n4_
        have HO123:=n5_
        clear n0_ n1_ n2_ n3_ n4_ n5_
        clear ho hb hg hat
        obtain ⟨Ao20,co20,eo20⟩:=Kd.R_slice HO123.out
        (first|subst eo20|(injection eo20 with f1_ f2_ f3_;have f4_:=f1_.symm;have f5_:=f3_.symm;clear f1_ f2_ f3_;subst f4_;subst f5_))
        refine hK.out _ _ ((blk_cell BK116.out 0).trans rfl) (fun hHeld=>?_)
        clear hK K
        refine rN (a':=?_) ?_ ?_
        rotate_left
        ·show Act.put _ (some 18) _=_
         simp only [Act.put,q1,q2,q3,i64_w,i32_w]
         rfl
        refine rO (N:=some 19) HT_ rfl rfl d3 d8 (fun K hK=>?_)
        refine value_ (w1:=?_) (v:=?_) d20 rfl ?_ ?_
        rotate_left 2
        ·go_simp
         constructor
         ·rfl
         rfl
        refine hK.out _ _ ((blk_cell (qa BK116.out _) 0).trans rfl) (fun hHeld=>?_)
        clear hK K
        refine rN (a':=?_) ?_ ?_
        rotate_left
        ·show Act.put _ (some 19) _=_
         simp only [Act.put,q1,q2,q3,i64_w,i32_w]
         rfl
        refine rO (N:=some 20) HT_ rfl rfl d3 d8 (fun K hK=>?_)
        refine Kd.S_append_step (Kd.slice 5 (Kd.int .u8)) (w0:=w) w.heap.size d20 (.tmp 15) (.tmp 19) 37 57 (.slice none 0 0) 24 rfl Try.underlying37 info57 rfl d8 d15 u117000 x117000_1 y121 [.slice Ao20 y121.length co20] (fun _=>True) (fun k_=>some k_=(.slice Ao20 y121.length co20:Value).ownBlock) rfl rfl ?aP (fun k_ hk_=>((Kd.R_mono (ok':=fun k_=>((fun _=>True)) k_∧some k_ ≠ (u117000:Value).ownBlock) (Kd.R_apart' (HO123.out) (Kd.S_typed HO_117000.out) d8) (fun k_ hk=>⟨trivial,hk.2⟩))).1 k_ hk_.symm) ?aF ?aO ?aB ?aS ?aL ?_
        (case aP=>exact Kd.M_row (Kd.R_mono (Kd.R_tight rfl (Kd.R_mono (ok':=fun k_=>((fun _=>True)) k_∧some k_ ≠ (u117000:Value).ownBlock) (Kd.R_apart' (HO123.out) (Kd.S_typed HO_117000.out) d8) (fun k_ hk=>⟨trivial,hk.2⟩))) (fun _ h_=>h_)))
        (case aB=>exact (by repeat (first|(with_reducible first|exact HB.out|apply pa|apply pb|apply pd|refine pt ?_ GE114.out|refine pt ?_ GE115.out|refine pt ?_ GE116.out)|exact HB.out)))
        (case aF=>exact (fun _ _=>trivial))
        (case aO=>exact (by (with_reducible repeat (first|apply Kd.S_alloc|apply Kd.S_drewN|apply Kd.S_drew));exact Kd.S_mono HO_117000.out (fun k_ hk=>⟨trivial,fun e_=>hk.2 e_⟩)))
        (case aS=>exact (pz (by repeat (first|(with_reducible first|exact HB.out|apply pa|apply pb|apply pd|refine pt ?_ GE114.out|refine pt ?_ GE115.out|refine pt ?_ GE116.out)|exact HB.out))))
        (case aL=>have:=LMc14.out;omega)
        intro v125 w19 ho hb hg hat
        rw [← Ny124.out] at ho
        have n0_:=am (blk_grown (g:=gb114) (o:=.cells #[.slice (some ad117) l0_0.length c0_0] 43 (0,0)) (by (with_reducible repeat (first|refine qn ?_ _|refine qd ?_|refine qa ?_ _));exact BK114.out) hg (Kd.S_ne HO_117000.out BK114.out d8))
        have n1_:=am (blk_grown (g:=gb115) (o:=.cells #[.slice none 0 0] 43 (0,0)) (by (with_reducible repeat (first|refine qn ?_ _|refine qd ?_|refine qa ?_ _));exact BK115.out) hg (Kd.S_ne HO_117000.out BK115.out d8))
        have n2_:=am (blk_grown (g:=gb116) (o:=.cells #[u117000] 43 (0,0)) (by (with_reducible repeat (first|refine qn ?_ _|refine qd ?_|refine qa ?_ _));exact BK116.out) hg (Kd.S_ne HO_117000.out BK116.out d8))
        have n3_:=am (hb)
        have n4_:=am (ho)
        clear BK114
        clear BK115
        clear BK116
        clear HB
        clear HO_117000
        clear HO123
        have BK114:=n0_
        have BK115:=n1_
        have BK116:=n2_
        have HB:=n3_
        have HO126:=n4_
        clear n0_ n1_ n2_ n3_ n4_
        clear ho hb hg hat
        obtain ⟨Ao21,co21,eo21⟩:=Kd.S_slice HO126.out
        (first|subst eo21|(injection eo21 with f1_ f2_ f3_;have f4_:=f1_.symm;have f5_:=f3_.symm;clear f1_ f2_ f3_;subst f4_;subst f5_))
        refine hK.out _ _ ((blk_cell BK116.out 0).trans rfl) (fun hHeld=>?_)
        clear hK K
        refine rN (a':=?_) ?_ ?_
        rotate_left
        ·show Act.put _ (some 20) _=_
         simp only [Act.put,q1,q2,q3,i64_w,i32_w]
         rfl
        refine rR ?_
        refine rL (N:=none) HT_ rfl rfl d3 d8 (fun K hK=>?_)
        have hs22:w19.cell? ⟨gb116,0,none⟩=some (u117000):=(blk_cell BK116.out 0).trans rfl
        have hfs22:=blk_frozen BK116.out 0
        have hns22_0:=NB114_116.out
        have hns22_1:=NB115_116.out
        have hms22_0:=NB116_114.out
        have hms22_1:=NB116_115.out
        refine skip_ (w1:=?_) d20 rfl ?_ ?_
        rotate_left
        ·go_simp
         rfl
        refine hK.out _ _ ?_
        clear hK K
        refine rD HT_ d3 ?_
        try go_wp2
        go_roundg k1
        case measure=>have:=HK1.out;omega
        case rel=>exact ⟨(wrap64 (x10_1+1)),(y124),(.slice Ao21 y124.length co21),d4,H',⟨d30⟩,⟨by (with_reducible repeat (first|apply Kd.S_alloc|apply Kd.S_drewN|apply Kd.S_drew));exact Kd.S_mono (Kd.S_far (p:=⟨gb116,0,none⟩) (Kd.S_types HO126.out BK116.out d8) (fun _ hk=>hk.2) (.slice Ao21 y124.length co21)) (fun _ hk=>trivial)⟩,⟨by (with_reducible repeat (first|refine qn ?_ _|refine qd ?_|refine qa ?_ _));refine blk_far ?_ NB114_116.out _;(with_reducible repeat (first|refine qn ?_ _|refine qd ?_|refine qa ?_ _));exact BK114.out⟩,⟨by (with_reducible repeat (first|refine qn ?_ _|refine qd ?_|refine qa ?_ _));refine blk_far ?_ NB115_116.out _;(with_reducible repeat (first|refine qn ?_ _|refine qd ?_|refine qa ?_ _));exact BK115.out⟩,⟨by (with_reducible repeat (first|refine qn ?_ _|refine qd ?_|refine qa ?_ _));refine blk_put (cs:=#[u117000]) ?_ 0 _ rfl;(with_reducible repeat (first|refine qn ?_ _|refine qd ?_|refine qa ?_ _));exact BK116.out⟩,⟨by repeat (first|(with_reducible first|exact HB.out|apply pa|apply pb|apply pd|refine pt ?_ GE114.out|refine pt ?_ GE115.out|refine pt ?_ GE116.out)|exact HB.out)⟩⟩
       rw [if_neg c14] at H
       exact absurd H d31
      rw [if_neg c13] at H
      exact absurd H d31
     rw [if_neg c12] at H
     exact absurd H d31
    rw [if_neg c11] at H
    exact absurd H d31
   rw [if_neg c10] at H
   have c10b0:decide (x10_1 < (l0_0.length:Int))=false:=decide_eq_false c10
   clear c10
   obtain rfl:=Option.some.inj H
   have hnb23:=NB116_114.out
   have hnc23:=NB114_116.out
   have hnb24:=NB116_115.out
   have hnc24:=NB115_116.out
   have hcz25_0:wr.cell? ⟨gb116,0,none⟩=some (u117000):=(blk_cell BK116.out 0).trans rfl
   have hfz25_0:=blk_frozen BK116.out 0
   obtain ⟨Ao26,co26,eo26⟩:=Kd.S_slice HO_117000.out
   subst eo26
   have hnb27:=NB115_114.out
   have hnc27:=NB114_115.out
   have hcz28_0:wr.cell? ⟨gb115,0,none⟩=some (.slice none 0 0):=(blk_cell BK115.out 0).trans rfl
   have hfz28_0:=blk_frozen BK115.out 0
   go_wp2
   refine bodyPost_ret (results_cell_row rfl _ _ gb115 43 #[.slice Ao26 x117000_1.length co26] (0,0) _ rfl (by (with_reducible repeat (first|refine qn ?_ _|refine qd ?_|refine qa ?_ _));refine blk_put (cs:=#[.slice none 0 0]) ?_ 0 _ rfl;(with_reducible repeat (first|refine qn ?_ _|refine qd ?_|refine qa ?_ _));exact BK115.out) Try.underlying43 rfl d3) rfl ?_
   exact ⟨_,d5,by (with_reducible repeat (first|apply Kd.S_alloc|apply Kd.S_drewN|apply Kd.S_drew));exact Kd.S_mono (Kd.S_far (p:=⟨gb115,0,none⟩) (Kd.S_types HO_117000.out BK115.out d8) (fun _ hk=>hk.2) (.slice Ao26 x117000_1.length co26)) (fun _ hk=>trivial),by repeat (first|(with_reducible first|exact HB.out|apply pa|apply pb|apply pd|refine pt ?_ GE114.out|refine pt ?_ GE115.out|refine pt ?_ GE116.out)|exact HB.out)⟩

def spec_l1Power.l0:Nat→Int→Int→Int→Option (Int)
 | 0,_,_,_=>none
 | k+1,x0,x1,x5=>if x1 > 0 then ((spec_l1Times.f k x5 x0).bind fun t127=>(spec_l1Power.l0 k x0 (wrap64 (x1 - 1)) t127)) else (some x5)
def spec_l1Power.f (k:Nat) (a0:Int) (a1:Int):Option (Int):=spec_l1Power.l0 k a0 a1 1
theorem spec_l1Power.mono_l:∀ k,(∀ y0 y1 y2,LeO (spec_l1Power.l0 k y0 y1 y2) (spec_l1Power.l0 (k+1) y0 y1 y2))
 | 0=>fun _ _ _ r h=>by simp [spec_l1Power.l0] at h
 | k+1=>by
  have ih0:=spec_l1Power.mono_l k
  intro y0 y1 y2
  unfold spec_l1Power.l0
  repeat' first
  | (with_reducible exact ih0 _ _ _)
  | (with_reducible exact spec_l1Times.mono _ _ _)
  |(with_reducible exact LeO.refl _)|(with_reducible exact LeO.none _)|(with_reducible refine LeO.ite ?_ ?_)|(with_reducible refine LeO.bind ?_ (fun _=>?_))|exact ih0 _ _ _|exact spec_l1Times.mono _ _ _|exact LeO.none _|refine LeO.ite ?_ ?_|refine LeO.bind ?_ (fun _=>?_)
theorem spec_l1Power.mono:∀ a0 a1 k,LeO (spec_l1Power.f k a0 a1) (spec_l1Power.f (k+1) a0 a1):=by
 intro a0 a1 k
 have ih0:=spec_l1Power.mono_l k
 unfold spec_l1Power.f
 repeat' first
   | (with_reducible exact ih0 _ _ _)
   | (with_reducible exact spec_l1Times.mono _ _ _)
   |(with_reducible exact LeO.refl _)|(with_reducible exact LeO.none _)|(with_reducible refine LeO.ite ?_ ?_)|(with_reducible refine LeO.bind ?_ (fun _=>?_))|exact ih0 _ _ _|exact spec_l1Times.mono _ _ _|exact LeO.none _|refine LeO.ite ?_ ?_|refine LeO.bind ?_ (fun _=>?_)
theorem spec_l1Power.calls (k:Nat) (a0:Int) (a1:Int) (r:Int) (w:World) (h:spec_l1Power.f k a0 a1=some r) :
  Calls Try.prog 173 #[.int .u8 a0, .int .i64 a1] w fun e w'=>e = .returned (.int .u8 r)∧Drawn0 w w':=by
 have H:(spec_l1Power.l0 k a0 a1 1)=some r:=h
 clear h
 have H':=am H
 clear H
 go_enter Try.func173,Try.ntmps173
 go_wp2
 go_loopg [1,5] k (fun kq v1 v5 w'=>∃ (x1_1:Int) (x5_1:Int),v1 = .int .i64 x1_1∧v5 = .int .u8 x5_1∧Aside0 (spec_l1Power.l0 kq a0 x1_1 x5_1=some r)∧Aside0 (kq≤k)∧Drawn0 w w')
 case atStart=>exact ⟨(a1),(1),d4,d4,H',⟨Nat.le_refl _⟩,d9⟩
 case round =>
  clear H'
  try clear c1
  try clear p2
  obtain ⟨x1_1,x5_1,rfl,rfl,HA,HK1,⟨m1,rfl⟩⟩:=hrel
  cases gk with
  | zero=>exact absurd HA.out (by simp [spec_l1Power.l0])
  | succ k1 =>
   have H:=HA.out
   clear HA
   simp only [spec_l1Power.l0] at H
   by_cases c3:x1_1 > 0
   ·rw [if_pos c3] at H
    have c3b0:decide (0 < x1_1)=true:=decide_eq_true c3
    clear c3
    replace H:=Option.bind_eq_some_iff.mp H
    obtain ⟨t127,A40,H⟩:=H
    replace H:(spec_l1Power.l0 k1 a0 (wrap64 (x1_1 - 1)) t127)=some r:=H
    have A4:=am A40
    clear A40
    have H':=am H
    clear H
    go_wp2_with (first|((with_reducible refine gate_callee (f:=174) rfl ?_);refine goesL_ (some 12) rfl rfl Try.func174 d3 rfl #[.int .u8 x5_1, .int .u8 a0] rfl d1 ?_;(with_reducible refine (spec_l1Times.calls k1 x5_1 a0 t127 _ A4.out).mono ?_);rintro e w' ⟨rfl,⟨nd,rfl⟩⟩;refine ⟨_,rfl,?_⟩))
    go_roundg k1
    case measure=>have:=HK1.out;omega
    case rel=>exact ⟨(wrap64 (x1_1 - 1)),(t127),d4,d4,H',⟨d30⟩,d9⟩
   rw [if_neg c3] at H
   have c3b0:decide (0 < x1_1)=false:=decide_eq_false c3
   clear c3
   obtain rfl:=Option.some.inj H
   go_wp2
   go_ret
   exact ⟨d4,d9⟩

def spec_l1Inverse.f (k:Nat) (a0:Int):Option (Int):=if a0=0 then (some 0) else ((spec_l1Power.f k a0 254).bind fun t128=>(some t128))
theorem spec_l1Inverse.mono:∀ a0 k,LeO (spec_l1Inverse.f k a0) (spec_l1Inverse.f (k+1) a0):=by
 intro a0 k
 unfold spec_l1Inverse.f
 repeat' first
   | (with_reducible exact spec_l1Power.mono _ _ _)
   |(with_reducible exact LeO.refl _)|(with_reducible exact LeO.none _)|(with_reducible refine LeO.ite ?_ ?_)|(with_reducible refine LeO.bind ?_ (fun _=>?_))|exact spec_l1Power.mono _ _ _|exact LeO.none _|refine LeO.ite ?_ ?_|refine LeO.bind ?_ (fun _=>?_)
theorem spec_l1Inverse.calls (k:Nat) (a0:Int) (r:Int) (w:World) (h:spec_l1Inverse.f k a0=some r) :
  Calls Try.prog 203 #[.int .u8 a0] w fun e w'=>e = .returned (.int .u8 r)∧Drawn0 w w':=by
 have H:(if a0=0 then (some 0) else ((spec_l1Power.f k a0 254).bind fun t128=>(some t128)))=some r:=h
 clear h
 by_cases c2:a0=0
 ·rw [if_pos c2] at H
  have c2b0:(a0 == 0)=true:=beq_iff_eq.mpr c2
  have c2b1:(a0 != 0)=false:=bne_eq_false_iff_eq.mpr c2
  clear c2
  obtain rfl:=Option.some.inj H
  go_enter Try.func203,Try.ntmps203
  go_wp2
  go_ret
  exact ⟨d4,d9⟩
 rw [if_neg c2] at H
 have c2b0:(a0 == 0)=false:=beq_eq_false_iff_ne.mpr c2
 have c2b1:(a0 != 0)=true:=bne_iff_ne.mpr c2
 replace H:=Option.bind_eq_some_iff.mp H
 obtain ⟨t128,A30,H⟩:=H
 replace H:(some t128)=some r:=H
 have A3:=am A30
 clear A30
 obtain rfl:=Option.some.inj H
 go_enter Try.func203,Try.ntmps203
 go_wp2_with (first|((with_reducible refine gate_callee (f:=173) rfl ?_);refine goesL_ (some 6) rfl rfl Try.func173 d3 rfl #[.int .u8 a0, .int .i64 254] rfl d1 ?_;(with_reducible refine (spec_l1Power.calls k a0 254 t128 _ A3.out).mono ?_);rintro e w' ⟨rfl,⟨nd,rfl⟩⟩;refine ⟨_,rfl,?_⟩))
 go_ret
 exact ⟨d4,d9⟩

end Go.Proofs.Ytajikfnpcobnpaa.PFnExactRegeneratePiece
-- HALVED
-- SQUEEZED
-- SQUEEZED2
-- SQUEEZED3
-- SQUEEZED4
-- SQUEEZED5
-- SQUEEZED6
