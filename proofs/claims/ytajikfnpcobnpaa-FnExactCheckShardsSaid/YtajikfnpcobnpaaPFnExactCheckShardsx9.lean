-- Laid by a program of this session.
import Derived.Test.YtajikfnpcobnpaaPFnExactCheckShardsx0
import Derived.Test.YtajikfnpcobnpaaPFnExactCheckShardsx5
import Derived.Test.YtajikfnpcobnpaaPFnExactCheckShardsx7
namespace Go.Proofs.Ytajikfnpcobnpaa.PFnExactCheckShards
open Go.RowKit Go.Proofs.YtajikfnpcobnpaaW.PrintWords Go.Proofs.YtajikfnpcobnpaaW.PrintLast Go.Proofs.YtajikfnpcobnpaaW.PrintMore
attribute [local go_sem] max2_int min2_int max_two min_two max_three min_three max_four min_four   -- for this text's walks alone
set_option linter.unusedVariables false
set_option maxHeartbeats 8000000
set_option maxRecDepth 100000
set_option linter.unusedSimpArgs false

mutual
def spec_l2Part.l0:Nat→List Int→List Int→Int→Int→List (List Int)→List (List Int)→Option ((List (List Int)))
 | 0,_,_,_,_,_,_=>none
 | k+1,x2,x14,x15,x16,x188000,x190000=>if x16 < x15 then (if 0≤x16 then (if x16 < (x14.length:Int) then (spec_l2Part.l1 k x2 (rd x14 x16) ([]:List Int) x14 x15 x16 x2 (x2.length:Int) 0 x188000 x190000) else (none)) else (none)) else (some x190000)
def spec_l2Part.l1:Nat→List Int→Int→List Int→List Int→Int→Int→List Int→Int→Int→List (List Int)→List (List Int)→Option ((List (List Int)))
 | 0,_,_,_,_,_,_,_,_,_,_,_=>none
 | k+1,x2,x9,x10,x14,x15,x16,x20,x21,x22,x188000,x190000=>if x22 < x21 then (if 0≤x22 then (if x22 < (x20.length:Int) then (if 0≤x9 then (if x9 < (x188000.length:Int) then (if 0≤(rd x20 x22) then (if (rd x20 x22) < ((rd_L5 x188000 x9).length:Int) then (if x10.length < 140737488355328 then (spec_l2Part.l1 k x2 x9 (x10 ++ [rd (rd_L5 x188000 x9) (rd x20 x22)]) x14 x15 x16 x20 x21 (wrap64 (x22+1)) x188000 x190000) else (none)) else (none)) else (none)) else (none)) else (none)) else (none)) else (none)) else (if x190000.length < 5864062014805 then (spec_l2Part.l0 k x2 x14 x15 (wrap64 (x16+1)) x188000 (x190000 ++ [x10])) else (none))
end
def spec_l2Part.f (k:Nat) (l0_0:List (List Int)) (l1:List Int) (l2:List Int):Option ((List (List Int))):=spec_l2Part.l0 k l2 l1 (l1.length:Int) 0 l0_0 ([]:List (List Int))
theorem spec_l2Part.mono_l:∀ k,(∀ y0 y1 y2 y3 y4 y5,LeO (spec_l2Part.l0 k y0 y1 y2 y3 y4 y5) (spec_l2Part.l0 (k+1) y0 y1 y2 y3 y4 y5))∧(∀ y0 y1 y2 y3 y4 y5 y6 y7 y8 y9 y10,LeO (spec_l2Part.l1 k y0 y1 y2 y3 y4 y5 y6 y7 y8 y9 y10) (spec_l2Part.l1 (k+1) y0 y1 y2 y3 y4 y5 y6 y7 y8 y9 y10))
 | 0=>⟨fun _ _ _ _ _ _ r h=>by simp [spec_l2Part.l0] at h,fun _ _ _ _ _ _ _ _ _ _ _ r h=>by simp [spec_l2Part.l1] at h⟩
 | k+1=>by
  obtain ⟨ih0,ih1⟩:=spec_l2Part.mono_l k
  refine ⟨?_,?_⟩
  ·intro y0 y1 y2 y3 y4 y5
   unfold spec_l2Part.l0
   repeat' first
   | (with_reducible exact ih0 _ _ _ _ _ _)
   | (with_reducible exact ih1 _ _ _ _ _ _ _ _ _ _ _)
   |(with_reducible exact LeO.refl _)|(with_reducible exact LeO.none _)|(with_reducible refine LeO.ite ?_ ?_)|(with_reducible refine LeO.bind ?_ (fun _=>?_))|exact ih0 _ _ _ _ _ _|exact ih1 _ _ _ _ _ _ _ _ _ _ _|exact LeO.none _|refine LeO.ite ?_ ?_|refine LeO.bind ?_ (fun _=>?_)
  intro y0 y1 y2 y3 y4 y5 y6 y7 y8 y9 y10
  unfold spec_l2Part.l1
  repeat' first
  | (with_reducible exact ih0 _ _ _ _ _ _)
  | (with_reducible exact ih1 _ _ _ _ _ _ _ _ _ _ _)
  |(with_reducible exact LeO.refl _)|(with_reducible exact LeO.none _)|(with_reducible refine LeO.ite ?_ ?_)|(with_reducible refine LeO.bind ?_ (fun _=>?_))|exact ih0 _ _ _ _ _ _|exact ih1 _ _ _ _ _ _ _ _ _ _ _|exact LeO.none _|refine LeO.ite ?_ ?_|refine LeO.bind ?_ (fun _=>?_)
theorem spec_l2Part.mono:∀ a0 a1 a2 k,LeO (spec_l2Part.f k a0 a1 a2) (spec_l2Part.f (k+1) a0 a1 a2):=by
 intro a0 a1 a2 k
 obtain ⟨ih0,ih1⟩:=spec_l2Part.mono_l k
 unfold spec_l2Part.f
 repeat' first
   | (with_reducible exact ih0 _ _ _ _ _ _)
   | (with_reducible exact ih1 _ _ _ _ _ _ _ _ _ _ _)
   |(with_reducible exact LeO.refl _)|(with_reducible exact LeO.none _)|(with_reducible refine LeO.ite ?_ ?_)|(with_reducible refine LeO.bind ?_ (fun _=>?_))|exact ih0 _ _ _ _ _ _|exact ih1 _ _ _ _ _ _ _ _ _ _ _|exact LeO.none _|refine LeO.ite ?_ ?_|refine LeO.bind ?_ (fun _=>?_)
theorem spec_l2Part.calls (k:Nat) (A0_0:Option Addr) (c0_0:Nat) (l0_0:List (List Int)) (A1:Option Addr) (c1:Nat) (l1:List Int) (A2:Option Addr) (c2:Nat) (l2:List Int) (r:List (List Int)) (w:World) (hr0_0:Kd.C (Kd.slice 5 (Kd.int .u8)) w A0_0 l0_0.length l0_0) (hc0_0:l0_0.length≤c0_0) (hr1:Kd.C (Kd.int .i64) w A1 l1.length l1) (hc1:l1.length≤c1) (hr2:Kd.C (Kd.int .i64) w A2 l2.length l2) (hc2:l2.length≤c2) (h:spec_l2Part.f k l0_0 l1 l2=some r) :
  Calls Try.prog 92 #[.agg #[.slice A0_0 l0_0.length c0_0], .slice A1 l1.length c1, .slice A2 l2.length c2] w fun e w'=>∃ v0_:Value,e = .returned (.agg #[v0_])∧Kd.S (Kd.slice 5 (Kd.int .u8)) 57 w' w.heap.size (fun _=>True) v0_ r∧Below w.heap.size w w':=by
 have hu43:=Try.underlying43
 have HR0_0:=am hr0_0
 have HC0_0:=am hc0_0
 clear hr0_0 hc0_0
 have HR1:=am hr1
 have HC1:=am hc1
 clear hr1 hc1
 have HR2:=am hr2
 have HC2:=am hc2
 clear hr2 hc2
 have HB:=am (Below.refl w.heap.size w)
 have H:(spec_l2Part.l0 k l2 l1 (l1.length:Int) 0 l0_0 ([]:List (List Int)))=some r:=h
 clear h
 have H':=am H
 clear H
 go_enter Try.func92,Try.ntmps92
 go_wp2_with (first|((with_reducible refine gate_dst (N:=3) rfl ?_);refine box_event ?hg (N:=3) ?hd (cs:=#[.slice A0_0 l0_0.length c0_0]) (t:=43) ?hr ?_;(case hd=>rfl);(case hg=>rfl);(case hr=>first|(go_simp;done)|(go_simp;rfl));intro gb187 hg w4 hbox hb;have n0_:=am (pu d0 hb);have n1_:=am (hbox);have n2_:=am ((by rw [hg];exact (pz d0):w.heap.size≤gb187));have n3_:=n2_;clear HB;have HB:=n0_;have BK187:=n1_;have GW187:=n2_;have GE187:=n3_;clear n0_ n1_ n2_ n3_;clear hb hbox hg)|((with_reducible refine gate_dst (N:=6) rfl ?_);refine box_event ?hg (N:=6) ?hd (cs:=#[.slice none 0 0]) (t:=43) ?hr ?_;(case hd=>rfl);(case hg=>rfl);(case hr=>first|(go_simp;done)|(go_simp;rfl));intro gb188 hg w5 hbox hb;have n0_:=am (qb (g:=gb187) (o:=.cells #[.slice A0_0 l0_0.length c0_0] 43 (0,0)) (by (with_reducible repeat (first|refine qn ?_ _|refine qd ?_|refine qa ?_ _));exact BK187.out) hb);have n1_:=am (pu (by repeat (first|(with_reducible first|exact HB.out|apply pa|apply pb|apply pd|refine pt ?_ GE187.out)|exact HB.out)) hb);have n2_:=am (hbox);have n3_:=am ((by rw [hg];exact (pz (by repeat (first|(with_reducible first|exact HB.out|apply pa|apply pb|apply pd|refine pt ?_ GE187.out)|exact HB.out))):w.heap.size≤gb188));have n4_:=n3_;have n5_:=am ((by rw [hg];exact Nat.ne_of_lt (blk_lt (g:=gb187) (o:=.cells #[.slice A0_0 l0_0.length c0_0] 43 (0,0)) (by (with_reducible repeat (first|refine qn ?_ _|refine qd ?_|refine qa ?_ _));exact BK187.out)):gb187 ≠ gb188));have n6_:=am ((by rw [hg];exact Nat.ne_of_gt (blk_lt (g:=gb187) (o:=.cells #[.slice A0_0 l0_0.length c0_0] 43 (0,0)) (by (with_reducible repeat (first|refine qn ?_ _|refine qd ?_|refine qa ?_ _));exact BK187.out)):gb188 ≠ gb187));clear BK187;clear HB;have BK187:=n0_;have HB:=n1_;have BK188:=n2_;have GW188:=n3_;have GE188:=n4_;have NB187_188:=n5_;have NB188_187:=n6_;clear n0_ n1_ n2_ n3_ n4_ n5_ n6_;clear hb hbox hg)|((with_reducible refine gate_dst (N:=7) rfl ?_);refine box_event ?hg (N:=7) ?hd (cs:=#[.slice none 0 0]) (t:=43) ?hr ?_;(case hd=>rfl);(case hg=>rfl);(case hr=>first|(go_simp;done)|(go_simp;rfl));intro gb189 hg w6 hbox hb;have n0_:=am (qb (g:=gb187) (o:=.cells #[.slice A0_0 l0_0.length c0_0] 43 (0,0)) (by (with_reducible repeat (first|refine qn ?_ _|refine qd ?_|refine qa ?_ _));exact BK187.out) hb);have n1_:=am (qb (g:=gb188) (o:=.cells #[.slice none 0 0] 43 (0,0)) (by (with_reducible repeat (first|refine qn ?_ _|refine qd ?_|refine qa ?_ _));exact BK188.out) hb);have n2_:=am (pu (by repeat (first|(with_reducible first|exact HB.out|apply pa|apply pb|apply pd|refine pt ?_ GE187.out|refine pt ?_ GE188.out)|exact HB.out)) hb);have n3_:=am (hbox);have n4_:=am ((by rw [hg];exact (pz (by repeat (first|(with_reducible first|exact HB.out|apply pa|apply pb|apply pd|refine pt ?_ GE187.out|refine pt ?_ GE188.out)|exact HB.out))):w.heap.size≤gb189));have n5_:=n4_;have n6_:=am ((by rw [hg];exact Nat.ne_of_lt (blk_lt (g:=gb187) (o:=.cells #[.slice A0_0 l0_0.length c0_0] 43 (0,0)) (by (with_reducible repeat (first|refine qn ?_ _|refine qd ?_|refine qa ?_ _));exact BK187.out)):gb187 ≠ gb189));have n7_:=am ((by rw [hg];exact Nat.ne_of_gt (blk_lt (g:=gb187) (o:=.cells #[.slice A0_0 l0_0.length c0_0] 43 (0,0)) (by (with_reducible repeat (first|refine qn ?_ _|refine qd ?_|refine qa ?_ _));exact BK187.out)):gb189 ≠ gb187));have n8_:=am ((by rw [hg];exact Nat.ne_of_lt (blk_lt (g:=gb188) (o:=.cells #[.slice none 0 0] 43 (0,0)) (by (with_reducible repeat (first|refine qn ?_ _|refine qd ?_|refine qa ?_ _));exact BK188.out)):gb188 ≠ gb189));have n9_:=am ((by rw [hg];exact Nat.ne_of_gt (blk_lt (g:=gb188) (o:=.cells #[.slice none 0 0] 43 (0,0)) (by (with_reducible repeat (first|refine qn ?_ _|refine qd ?_|refine qa ?_ _));exact BK188.out)):gb189 ≠ gb188));clear BK187;clear BK188;clear HB;have BK187:=n0_;have BK188:=n1_;have HB:=n2_;have BK189:=n3_;have GW189:=n4_;have GE189:=n5_;have NB187_189:=n6_;have NB189_187:=n7_;have NB188_189:=n8_;have NB189_188:=n9_;clear n0_ n1_ n2_ n3_ n4_ n5_ n6_ n7_ n8_ n9_;clear hb hbox hg;have hnb7:=NB189_187.out;have hnc7:=NB187_189.out;have hnb8:=NB189_188.out;have hnc8:=NB188_189.out;have hcz9_0:w6.cell? ⟨gb189,0,none⟩=some (.slice none 0 0):=(blk_cell BK189.out 0).trans rfl;have hfz9_0:=blk_frozen BK189.out 0))
 go_loopg [16] k (fun kq v16 w'=>∃ (x16_1:Int) (x190000_1:List (List Int)) (u190000:Value),v16 = .int .i64 x16_1∧Aside0 (spec_l2Part.l0 kq l2 l1 (l1.length:Int) x16_1 l0_0 x190000_1=some r)∧Aside0 (kq≤k)∧Aside0 (Kd.S (Kd.slice 5 (Kd.int .u8)) 57 w' w.heap.size (fun _=>True) u190000 x190000_1)∧Aside0 (w'.heap[gb187]? = some (.cells #[(.slice A0_0 l0_0.length c0_0)] 43 (0,0)))∧Aside0 (w'.heap[gb188]? = some (.cells #[(.slice none 0 0)] 43 (0,0)))∧Aside0 (w'.heap[gb189]? = some (.cells #[u190000] 43 (0,0)))∧Aside0 (Below w.heap.size w w'))
 case atStart=>exact ⟨(0),(([]:List (List Int))),(.slice none 0 0),d2,H',⟨Nat.le_refl _⟩,⟨d41⟩,⟨by (with_reducible repeat (first|refine qn ?_ _|refine qd ?_|refine qa ?_ _));refine blk_far ?_ NB187_189.out _;(with_reducible repeat (first|refine qn ?_ _|refine qd ?_|refine qa ?_ _));exact BK187.out⟩,⟨by (with_reducible repeat (first|refine qn ?_ _|refine qd ?_|refine qa ?_ _));refine blk_far ?_ NB188_189.out _;(with_reducible repeat (first|refine qn ?_ _|refine qd ?_|refine qa ?_ _));exact BK188.out⟩,⟨by (with_reducible repeat (first|refine qn ?_ _|refine qd ?_|refine qa ?_ _));refine blk_put (cs:=#[.slice none 0 0]) ?_ 0 _ rfl;(with_reducible repeat (first|refine qn ?_ _|refine qd ?_|refine qa ?_ _));exact BK189.out⟩,⟨by repeat (first|(with_reducible first|exact HB.out|apply pa|apply pb|apply pd|refine pt ?_ GE187.out|refine pt ?_ GE188.out|refine pt ?_ GE189.out)|exact HB.out)⟩⟩
 case round =>
  clear H'
  try clear c1
  try clear c2
  try clear p2
  try clear c7
  try clear c8
  try clear c9
  try clear hcz9_0
  try clear hfz9_0
  obtain ⟨x16_1,x190000_1,u190000,rfl,HA,HK1,HO_190000,BK187,BK188,BK189,HB⟩:=hrel
  cases gk with
  | zero=>exact absurd HA.out (by simp [spec_l2Part.l0])
  | succ k1 =>
   have H:=HA.out
   clear HA
   simp only [spec_l2Part.l0] at H
   by_cases c10:x16_1 < (l1.length:Int)
   ·rw [if_pos c10] at H
    have c10b0:decide (x16_1 < (l1.length:Int))=true:=decide_eq_true c10
    clear c10
    by_cases c11:0≤x16_1
    ·rw [if_pos c11] at H
     have c11b0:decide (0≤x16_1)=true:=decide_eq_true c11
     clear c11
     by_cases c12:x16_1 < (l1.length:Int)
     ·rw [if_pos c12] at H
      have c12b0:decide (x16_1 < (l1.length:Int))=true:=decide_eq_true c12
      clear c12
      have H':=am H
      clear H
      have p190:0≤(x16_1:Int):=od d1
      have q190:x16_1 < (l1.length:Int):=od d1
      obtain ⟨ad190,e190,hx190_0⟩:=Kd.at_int HR1.out x16_1 p190 q190
      cases e190
      replace hx190_0:=(HB.out.cell (World.block_lt_of_cell? w _ hx190_0)).trans hx190_0
      replace p190:=eq_true p190
      replace q190:=eq_true q190
      go_wp2
      go_loopg [10,22] k1 (fun kq v10 v22 w'=>∃ (x10_2:List Int) (x22_2:Int),v22 = .int .i64 x22_2∧Aside0 (spec_l2Part.l1 kq l2 (rd l1 x16_1) x10_2 l1 (l1.length:Int) x16_1 l2 (l2.length:Int) x22_2 l0_0 x190000_1=some r)∧Aside0 (kq≤k1)∧Aside0 (Kd.R (Kd.int .u8) 5 w' w.heap.size (fun _=>True) v10 x10_2)∧Aside0 (Kd.S (Kd.slice 5 (Kd.int .u8)) 57 w' w.heap.size (fun k_=>some k_ ≠ (v10:Value).ownBlock) u190000 x190000_1)∧Aside0 (w'.heap[gb187]? = some (.cells #[(.slice A0_0 l0_0.length c0_0)] 43 (0,0)))∧Aside0 (w'.heap[gb188]? = some (.cells #[(.slice none 0 0)] 43 (0,0)))∧Aside0 (w'.heap[gb189]? = some (.cells #[u190000] 43 (0,0)))∧Aside0 (Below w.heap.size w w'))
      case atStart=>exact ⟨(([]:List Int)),(0),d2,H',⟨Nat.le_refl _⟩,⟨d12⟩,⟨by (with_reducible repeat (first|apply Kd.S_alloc|apply Kd.S_drewN|apply Kd.S_drew));exact Kd.S_mono HO_190000.out (fun _ hk=>d45)⟩,⟨by (with_reducible repeat (first|refine qn ?_ _|refine qd ?_|refine qa ?_ _));exact BK187.out⟩,⟨by (with_reducible repeat (first|refine qn ?_ _|refine qd ?_|refine qa ?_ _));exact BK188.out⟩,⟨by (with_reducible repeat (first|refine qn ?_ _|refine qd ?_|refine qa ?_ _));exact BK189.out⟩,⟨by repeat (first|(with_reducible first|exact HB.out|apply pa|apply pb|apply pd|refine pt ?_ GE187.out|refine pt ?_ GE188.out|refine pt ?_ GE189.out)|exact HB.out)⟩⟩
      case round =>
       clear H'
       try clear c1
       try clear p1
       try clear q1
       try clear hx1
       try clear c2
       try clear p2
       try clear c7
       try clear c8
       try clear c9
       try clear c10
       try clear c10b0
       try clear c11
       try clear c11b0
       try clear c12
       try clear c12b0
       try clear hcz9_0
       try clear hfz9_0
       try clear hx190_0
       try clear p190
       try clear p2
       try clear q190
       obtain ⟨x10_2,x22_2,rfl,HA,HK2,HO_10,HO_190000,BK187,BK188,BK189,HB⟩:=hrel
       cases gk with
       | zero=>exact absurd HA.out (by simp [spec_l2Part.l1])
       | succ k2 =>
        have H:=HA.out
        clear HA
        simp only [spec_l2Part.l1] at H
        by_cases c13:x22_2 < (l2.length:Int)
        ·rw [if_pos c13] at H
         have c13b0:decide (x22_2 < (l2.length:Int))=true:=decide_eq_true c13
         clear c13
         by_cases c14:0≤x22_2
         ·rw [if_pos c14] at H
          have c14b0:decide (0≤x22_2)=true:=decide_eq_true c14
          clear c14
          by_cases c15:x22_2 < (l2.length:Int)
          ·rw [if_pos c15] at H
           have c15b0:decide (x22_2 < (l2.length:Int))=true:=decide_eq_true c15
           clear c15
           by_cases c16:0≤(rd l1 x16_1)
           ·rw [if_pos c16] at H
            have c16b0:decide (0≤(rd l1 x16_1))=true:=decide_eq_true c16
            clear c16
            by_cases c17:(rd l1 x16_1) < (l0_0.length:Int)
            ·rw [if_pos c17] at H
             have c17b0:decide ((rd l1 x16_1) < (l0_0.length:Int))=true:=decide_eq_true c17
             clear c17
             by_cases c18:0≤(rd l2 x22_2)
             ·rw [if_pos c18] at H
              have c18b0:decide (0≤(rd l2 x22_2))=true:=decide_eq_true c18
              clear c18
              by_cases c19:(rd l2 x22_2) < ((rd_L5 l0_0 (rd l1 x16_1)).length:Int)
              ·rw [if_pos c19] at H
               have c19b0:decide ((rd l2 x22_2) < ((rd_L5 l0_0 (rd l1 x16_1)).length:Int))=true:=decide_eq_true c19
               clear c19
               by_cases c20:x10_2.length < 140737488355328
               ·rw [if_pos c20] at H
                have LMc20:=am c20
                clear c20
                obtain ⟨y194,hy194⟩:∃ y_:List Int,y_=(x10_2 ++ [rd (rd_L5 l0_0 (rd l1 x16_1)) (rd l2 x22_2)]):=⟨_,rfl⟩
                replace H:(spec_l2Part.l1 k2 l2 (rd l1 x16_1) y194 l1 (l1.length:Int) x16_1 l2 (l2.length:Int) (wrap64 (x22_2+1)) l0_0 x190000_1)=some r:=by first|(rw [hy194];with_reducible exact H)|(have H2_:=(Option.bind_some _ _).symm.trans H;rw [hy194];with_reducible exact H2_)|(have H2_:=(Option.bind_some _ _).symm.trans H;with_reducible exact H2_)|with_reducible exact H|(rw [hy194];exact H)|exact H
                have Ny194:=am hy194
                clear hy194
                have H':=am H
                clear H
                have p191:0≤(x22_2:Int):=od d1
                have q191:x22_2 < (l2.length:Int):=od d1
                obtain ⟨ad191,e191,hx191_0⟩:=Kd.at_int HR2.out x22_2 p191 q191
                cases e191
                replace hx191_0:=(HB.out.cell (World.block_lt_of_cell? w _ hx191_0)).trans hx191_0
                replace p191:=eq_true p191
                replace q191:=eq_true q191
                have hnb21:=NB187_188.out
                have hnc21:=NB188_187.out
                have hnb22:=NB187_189.out
                have hnc22:=NB189_187.out
                have hcz23_0:wr.cell? ⟨gb187,0,none⟩=some (.slice A0_0 l0_0.length c0_0):=(blk_cell BK187.out 0).trans rfl
                have hfz23_0:=blk_frozen BK187.out 0
                have p192:0≤((rd l1 x16_1):Int):=od d1
                have q192:(rd l1 x16_1) < (l0_0.length:Int):=od d1
                obtain ⟨ad192,A192_0,c192_0,e192,hx192_0,hl192_0,hi192_0⟩:=at_L5 HR0_0.out (rd l1 x16_1) p192 q192
                cases e192
                replace hx192_0:=(HB.out.cell (World.block_lt_of_cell? w _ hx192_0)).trans hx192_0
                have HR192_0:=am hi192_0
                have HC192_0:=am hl192_0
                clear hi192_0 hl192_0
                replace p192:=eq_true p192
                replace q192:=eq_true q192
                have p193:0≤((rd l2 x22_2):Int):=od d1
                have q193:(rd l2 x22_2) < ((rd_L5 l0_0 (rd l1 x16_1)).length:Int):=od d1
                obtain ⟨ad193,e193,hx193_0⟩:=Kd.at_int HR192_0.out (rd l2 x22_2) p193 q193
                cases e193
                replace hx193_0:=(HB.out.cell (World.block_lt_of_cell? w _ hx193_0)).trans hx193_0
                replace p193:=eq_true p193
                replace q193:=eq_true q193
                go_wp2_with (first|((with_reducible refine gate_builtin (b:=.append) (xs:=#[.tmp 26, .tmp 35]) rfl ?_);at_builtin;refine Kd.R_append (Kd.int .u8) (w0:=w) w.heap.size rfl (.tmp 26) (.tmp 35) 57 5 (.int .u8 0) 1 rfl Try.underlying57 info5 rfl d11 d6 u10 x10_2 (rd (rd_L5 l0_0 (rd l1 x16_1)) (rd l2 x22_2)) [.int .u8 (rd (rd_L5 l0_0 (rd l1 x16_1)) (rd l2 x22_2))] (fun _=>True) (fun _=>False) rfl rfl ?aP (fun _ hk=>hk.elim) ?aF ?aO ?aB ?aS ?aL ?_;(case aP=>exact rfl);(case aB=>exact (by repeat (first|(with_reducible first|exact HB.out|apply pa|apply pb|apply pd|refine pt ?_ GE187.out|refine pt ?_ GE188.out|refine pt ?_ GE189.out)|exact HB.out)));(case aF=>exact (fun _ _=>trivial));(case aO=>exact d13);(case aS=>exact (pz (by repeat (first|(with_reducible first|exact HB.out|apply pa|apply pb|apply pd|refine pt ?_ GE187.out|refine pt ?_ GE188.out|refine pt ?_ GE189.out)|exact HB.out))));(case aL=>have:=LMc20.out;omega);intro v195 w24 ho hb hg hat;rw [← Ny194.out] at ho;have n0_:=am (Kd.S_after (ok:=(fun _=>True)) (by (with_reducible repeat (first|apply Kd.S_alloc|apply Kd.S_drewN|apply Kd.S_drew));exact Kd.S_mono HO_190000.out (fun _ hk=>⟨trivial,hk⟩)) hg hat);have n1_:=am (blk_grown (g:=gb187) (o:=.cells #[.slice (some ad192) l0_0.length c0_0] 43 (0,0)) (by (with_reducible repeat (first|refine qn ?_ _|refine qd ?_|refine qa ?_ _));exact BK187.out) hg (Kd.R_ne HO_10.out BK187.out d11));have n2_:=am (blk_grown (g:=gb188) (o:=.cells #[.slice none 0 0] 43 (0,0)) (by (with_reducible repeat (first|refine qn ?_ _|refine qd ?_|refine qa ?_ _));exact BK188.out) hg (Kd.R_ne HO_10.out BK188.out d11));have n3_:=am (blk_grown (g:=gb189) (o:=.cells #[u190000] 43 (0,0)) (by (with_reducible repeat (first|refine qn ?_ _|refine qd ?_|refine qa ?_ _));exact BK189.out) hg (Kd.R_ne HO_10.out BK189.out d11));have n4_:=am (hb);have n5_:=am (ho);clear HO_190000;clear BK187;clear BK188;clear BK189;clear HB;clear HO_10;have HO_190000:=n0_;have BK187:=n1_;have BK188:=n2_;have BK189:=n3_;have HB:=n4_;have HO196:=n5_;clear n0_ n1_ n2_ n3_ n4_ n5_;clear ho hb hg hat))
                go_roundg k2
                case measure=>have:=HK1.out;have:=HK2.out;omega
                case rel=>exact ⟨(y194),(wrap64 (x22_2+1)),d2,H',⟨d40⟩,⟨by (with_reducible repeat (first|apply Kd.R_alloc|apply Kd.R_drewN|apply Kd.R_drew));exact HO196.out⟩,⟨by (with_reducible repeat (first|apply Kd.S_alloc|apply Kd.S_drewN|apply Kd.S_drew));exact Kd.S_mono HO_190000.out (fun _ hk=>hk.2)⟩,⟨by (with_reducible repeat (first|refine qn ?_ _|refine qd ?_|refine qa ?_ _));exact BK187.out⟩,⟨by (with_reducible repeat (first|refine qn ?_ _|refine qd ?_|refine qa ?_ _));exact BK188.out⟩,⟨by (with_reducible repeat (first|refine qn ?_ _|refine qd ?_|refine qa ?_ _));exact BK189.out⟩,⟨by repeat (first|(with_reducible first|exact HB.out|apply pa|apply pb|apply pd|refine pt ?_ GE187.out|refine pt ?_ GE188.out|refine pt ?_ GE189.out)|exact HB.out)⟩⟩
               rw [if_neg c20] at H
               exact absurd H d20
              rw [if_neg c19] at H
              exact absurd H d20
             rw [if_neg c18] at H
             exact absurd H d20
            rw [if_neg c17] at H
            exact absurd H d20
           rw [if_neg c16] at H
           exact absurd H d20
          rw [if_neg c15] at H
          exact absurd H d20
         rw [if_neg c14] at H
         exact absurd H d20
        rw [if_neg c13] at H
        have c13b0:decide (x22_2 < (l2.length:Int))=false:=decide_eq_false c13
        clear c13
        by_cases c25:x190000_1.length < 5864062014805
        ·rw [if_pos c25] at H
         have LMc25:=am c25
         clear c25
         obtain ⟨y197,hy197⟩:∃ y_:List (List Int),y_=(x190000_1 ++ [x10_2]):=⟨_,rfl⟩
         replace H:(spec_l2Part.l0 k2 l2 l1 (l1.length:Int) (wrap64 (x16_1+1)) l0_0 y197)=some r:=by first|(rw [hy197];with_reducible exact H)|(have H2_:=(Option.bind_some _ _).symm.trans H;rw [hy197];with_reducible exact H2_)|(have H2_:=(Option.bind_some _ _).symm.trans H;with_reducible exact H2_)|with_reducible exact H|(rw [hy197];exact H)|exact H
         have Ny197:=am hy197
         clear hy197
         have H':=am H
         clear H
         have hnb26:=NB189_187.out
         have hnc26:=NB187_189.out
         have hnb27:=NB189_188.out
         have hnc27:=NB188_189.out
         have hcz28_0:wr.cell? ⟨gb189,0,none⟩=some (u190000):=(blk_cell BK189.out 0).trans rfl
         have hfz28_0:=blk_frozen BK189.out 0
         obtain ⟨Ao30,co30,eo30⟩:=Kd.R_slice HO_10.out
         subst eo30
         go_wp2_with (first|((with_reducible refine gate_builtin (b:=.append) (xs:=#[.tmp 39, .tmp 41]) rfl ?_);at_builtin;refine Kd.S_append (Kd.slice 5 (Kd.int .u8)) (w0:=w) w.heap.size rfl (.tmp 39) (.tmp 41) 37 57 (.slice none 0 0) 24 rfl Try.underlying37 info57 rfl d11 d6 u190000 x190000_1 x10_2 [.slice Ao30 x10_2.length co30] (fun _=>True) (fun k_=>some k_=(.slice Ao30 x10_2.length co30:Value).ownBlock) rfl rfl ?aP (fun k_ hk_=>((Kd.R_mono (ok':=fun k_=>((fun _=>True)) k_∧some k_ ≠ (u190000:Value).ownBlock) (Kd.R_apart' (HO_10.out) (Kd.S_typed HO_190000.out) d11) (fun k_ hk=>⟨trivial,hk.2⟩))).1 k_ hk_.symm) ?aF ?aO ?aB ?aS ?aL ?_;(case aP=>exact Kd.M_row (Kd.R_mono (Kd.R_tight rfl (Kd.R_mono (ok':=fun k_=>((fun _=>True)) k_∧some k_ ≠ (u190000:Value).ownBlock) (Kd.R_apart' (HO_10.out) (Kd.S_typed HO_190000.out) d11) (fun k_ hk=>⟨trivial,hk.2⟩))) (fun _ h_=>h_)));(case aB=>exact (by repeat (first|(with_reducible first|exact HB.out|apply pa|apply pb|apply pd|refine pt ?_ GE187.out|refine pt ?_ GE188.out|refine pt ?_ GE189.out)|exact HB.out)));(case aF=>exact (fun _ _=>trivial));(case aO=>exact (by (with_reducible repeat (first|apply Kd.S_alloc|apply Kd.S_drewN|apply Kd.S_drew));exact Kd.S_mono HO_190000.out (fun k_ hk=>⟨trivial,fun e_=>hk e_⟩)));(case aS=>exact (pz (by repeat (first|(with_reducible first|exact HB.out|apply pa|apply pb|apply pd|refine pt ?_ GE187.out|refine pt ?_ GE188.out|refine pt ?_ GE189.out)|exact HB.out))));(case aL=>have:=LMc25.out;omega);intro v198 w29 ho hb hg hat;rw [← Ny197.out] at ho;have n0_:=am (blk_grown (g:=gb187) (o:=.cells #[.slice A0_0 l0_0.length c0_0] 43 (0,0)) (by (with_reducible repeat (first|refine qn ?_ _|refine qd ?_|refine qa ?_ _));exact BK187.out) hg (Kd.S_ne HO_190000.out BK187.out d11));have n1_:=am (blk_grown (g:=gb188) (o:=.cells #[.slice none 0 0] 43 (0,0)) (by (with_reducible repeat (first|refine qn ?_ _|refine qd ?_|refine qa ?_ _));exact BK188.out) hg (Kd.S_ne HO_190000.out BK188.out d11));have n2_:=am (blk_grown (g:=gb189) (o:=.cells #[u190000] 43 (0,0)) (by (with_reducible repeat (first|refine qn ?_ _|refine qd ?_|refine qa ?_ _));exact BK189.out) hg (Kd.S_ne HO_190000.out BK189.out d11));have n3_:=am (hb);have n4_:=am (ho);clear BK187;clear BK188;clear BK189;clear HB;clear HO_190000;clear HO_10;have BK187:=n0_;have BK188:=n1_;have BK189:=n2_;have HB:=n3_;have HO199:=n4_;clear n0_ n1_ n2_ n3_ n4_;clear ho hb hg hat;obtain ⟨Ao31,co31,eo31⟩:=Kd.S_slice HO199.out;subst eo31;have hcz32_0:w29.cell? ⟨gb189,0,none⟩=some (u190000):=(blk_cell BK189.out 0).trans rfl;have hfz32_0:=blk_frozen BK189.out 0))
         go_roundg k2
         case measure=>have:=HK1.out;have:=HK2.out;omega
         case rel=>exact ⟨(wrap64 (x16_1+1)),(y197),(.slice Ao31 y197.length co31),d2,H',⟨d40⟩,⟨by (with_reducible repeat (first|apply Kd.S_alloc|apply Kd.S_drewN|apply Kd.S_drew));exact Kd.S_mono (Kd.S_far (p:=⟨gb189,0,none⟩) (Kd.S_types HO199.out BK189.out d11) (fun _ hk=>hk.2) (.slice Ao31 y197.length co31)) (fun _ hk=>trivial)⟩,⟨by (with_reducible repeat (first|refine qn ?_ _|refine qd ?_|refine qa ?_ _));refine blk_far ?_ NB187_189.out _;(with_reducible repeat (first|refine qn ?_ _|refine qd ?_|refine qa ?_ _));exact BK187.out⟩,⟨by (with_reducible repeat (first|refine qn ?_ _|refine qd ?_|refine qa ?_ _));refine blk_far ?_ NB188_189.out _;(with_reducible repeat (first|refine qn ?_ _|refine qd ?_|refine qa ?_ _));exact BK188.out⟩,⟨by (with_reducible repeat (first|refine qn ?_ _|refine qd ?_|refine qa ?_ _));refine blk_put (cs:=#[u190000]) ?_ 0 _ rfl;(with_reducible repeat (first|refine qn ?_ _|refine qd ?_|refine qa ?_ _));exact BK189.out⟩,⟨by repeat (first|(with_reducible first|exact HB.out|apply pa|apply pb|apply pd|refine pt ?_ GE187.out|refine pt ?_ GE188.out|refine pt ?_ GE189.out)|exact HB.out)⟩⟩
        rw [if_neg c25] at H
        exact absurd H d20
     rw [if_neg c12] at H
     exact absurd H d20
    rw [if_neg c11] at H
    exact absurd H d20
   rw [if_neg c10] at H
   have c10b0:decide (x16_1 < (l1.length:Int))=false:=decide_eq_false c10
   clear c10
   obtain rfl:=Option.some.inj H
   have hnb33:=NB189_187.out
   have hnc33:=NB187_189.out
   have hnb34:=NB189_188.out
   have hnc34:=NB188_189.out
   have hcz35_0:wr.cell? ⟨gb189,0,none⟩=some (u190000):=(blk_cell BK189.out 0).trans rfl
   have hfz35_0:=blk_frozen BK189.out 0
   obtain ⟨Ao36,co36,eo36⟩:=Kd.S_slice HO_190000.out
   subst eo36
   have hnb37:=NB188_187.out
   have hnc37:=NB187_188.out
   have hcz38_0:wr.cell? ⟨gb188,0,none⟩=some (.slice none 0 0):=(blk_cell BK188.out 0).trans rfl
   have hfz38_0:=blk_frozen BK188.out 0
   go_wp2
   refine bodyPost_ret (results_cell_row rfl _ _ gb188 43 #[.slice Ao36 x190000_1.length co36] (0,0) _ rfl (by (with_reducible repeat (first|refine qn ?_ _|refine qd ?_|refine qa ?_ _));refine blk_put (cs:=#[.slice none 0 0]) ?_ 0 _ rfl;(with_reducible repeat (first|refine qn ?_ _|refine qd ?_|refine qa ?_ _));exact BK188.out) Try.underlying43 rfl d3) rfl ?_
   exact ⟨_,d5,by (with_reducible repeat (first|apply Kd.S_alloc|apply Kd.S_drewN|apply Kd.S_drew));exact Kd.S_mono (Kd.S_far (p:=⟨gb188,0,none⟩) (Kd.S_types HO_190000.out BK188.out d11) (fun _ hk=>hk.2) (.slice Ao36 x190000_1.length co36)) (fun _ hk=>trivial),by repeat (first|(with_reducible first|exact HB.out|apply pa|apply pb|apply pd|refine pt ?_ GE187.out|refine pt ?_ GE188.out|refine pt ?_ GE189.out)|exact HB.out)⟩

def spec_l3All.l0:Nat→Int→List Int→Int→Option (List Int)
 | 0,_,_,_=>none
 | k+1,x0,x3,x4=>if x4 < x0 then (if x3.length < 17592186044416 then (spec_l3All.l0 k x0 (x3 ++ [x4]) (wrap64 (x4+1))) else (none)) else (some x3)
def spec_l3All.f (k:Nat) (a0:Int):Option (List Int):=spec_l3All.l0 k a0 ([]:List Int) 0
theorem spec_l3All.mono_l:∀ k,(∀ y0 y1 y2,LeO (spec_l3All.l0 k y0 y1 y2) (spec_l3All.l0 (k+1) y0 y1 y2))
 | 0=>fun _ _ _ r h=>by simp [spec_l3All.l0] at h
 | k+1=>by
  have ih0:=spec_l3All.mono_l k
  intro y0 y1 y2
  unfold spec_l3All.l0
  repeat' first
  | (with_reducible exact ih0 _ _ _)
  |(with_reducible exact LeO.refl _)|(with_reducible exact LeO.none _)|(with_reducible refine LeO.ite ?_ ?_)|(with_reducible refine LeO.bind ?_ (fun _=>?_))|exact ih0 _ _ _|exact LeO.none _|refine LeO.ite ?_ ?_|refine LeO.bind ?_ (fun _=>?_)
theorem spec_l3All.mono:∀ a0 k,LeO (spec_l3All.f k a0) (spec_l3All.f (k+1) a0):=by
 intro a0 k
 have ih0:=spec_l3All.mono_l k
 unfold spec_l3All.f
 repeat' first
   | (with_reducible exact ih0 _ _ _)
   |(with_reducible exact LeO.refl _)|(with_reducible exact LeO.none _)|(with_reducible refine LeO.ite ?_ ?_)|(with_reducible refine LeO.bind ?_ (fun _=>?_))|exact ih0 _ _ _|exact LeO.none _|refine LeO.ite ?_ ?_|refine LeO.bind ?_ (fun _=>?_)
theorem spec_l3All.calls (k:Nat) (a0:Int) (r:List Int) (w:World) (h:spec_l3All.f k a0=some r) :
  Calls Try.prog 93 #[.int .i64 a0] w fun e w'=>∃ v0_:Value,e = .returned (v0_)∧Kd.R (Kd.int .i64) 3 w' w.heap.size (fun _=>True) v0_ r∧Below w.heap.size w w':=by
 have HB:=am (Below.refl w.heap.size w)
 have H:(spec_l3All.l0 k a0 ([]:List Int) 0)=some r:=h
 clear h
 have H':=am H
 clear H
 go_enter Try.func93,Try.ntmps93
 go_wp2
 go_loopg [3,4] k (fun kq v3 v4 w'=>∃ (x3_1:List Int) (x4_1:Int),v4 = .int .i64 x4_1∧Aside0 (spec_l3All.l0 kq a0 x3_1 x4_1=some r)∧Aside0 (kq≤k)∧Aside0 (Kd.R (Kd.int .i64) 3 w' w.heap.size (fun _=>True) v3 x3_1)∧Aside0 (Below w.heap.size w w'))
 case atStart=>exact ⟨(([]:List Int)),(0),d2,H',⟨Nat.le_refl _⟩,⟨d12⟩,⟨d0⟩⟩
 case round =>
  clear H'
  obtain ⟨x3_1,x4_1,rfl,HA,HK1,HO_3,HB⟩:=hrel
  cases gk with
  | zero=>exact absurd HA.out (by simp [spec_l3All.l0])
  | succ k1 =>
   have H:=HA.out
   clear HA
   simp only [spec_l3All.l0] at H
   by_cases c2:x4_1 < a0
   ·rw [if_pos c2] at H
    have c2b0:decide (x4_1 < a0)=true:=decide_eq_true c2
    clear c2
    by_cases c3:x3_1.length < 17592186044416
    ·rw [if_pos c3] at H
     have LMc3:=am c3
     clear c3
     obtain ⟨y200,hy200⟩:∃ y_:List Int,y_=(x3_1 ++ [x4_1]):=⟨_,rfl⟩
     replace H:(spec_l3All.l0 k1 a0 y200 (wrap64 (x4_1+1)))=some r:=by first|(rw [hy200];with_reducible exact H)|(have H2_:=(Option.bind_some _ _).symm.trans H;rw [hy200];with_reducible exact H2_)|(have H2_:=(Option.bind_some _ _).symm.trans H;with_reducible exact H2_)|with_reducible exact H|(rw [hy200];exact H)|exact H
     have Ny200:=am hy200
     clear hy200
     have H':=am H
     clear H
     go_wp2_with (first|((with_reducible refine gate_builtin (b:=.append) (xs:=#[.tmp 10, .tmp 12]) rfl ?_);at_builtin;refine Kd.R_append (Kd.int .i64) (w0:=w) w.heap.size rfl (.tmp 10) (.tmp 12) 25 3 (.int .i64 0) 8 rfl Try.underlying25 info3 rfl d11 d6 u3 x3_1 x4_1 [.int .i64 x4_1] (fun _=>True) (fun _=>False) rfl rfl ?aP (fun _ hk=>hk.elim) ?aF ?aO ?aB ?aS ?aL ?_;(case aP=>exact rfl);(case aB=>exact d0);(case aF=>exact (fun _ _=>trivial));(case aO=>exact d28);(case aS=>exact (pz d0));(case aL=>have:=LMc3.out;omega);intro v201 w4 ho hb hg hat;rw [← Ny200.out] at ho;have n0_:=am (hb);have n1_:=am (ho);clear HB;clear HO_3;have HB:=n0_;have HO202:=n1_;clear n0_ n1_;clear ho hb hg hat))
     go_roundg k1
     case measure=>have:=HK1.out;omega
     case rel=>exact ⟨(y200),(wrap64 (x4_1+1)),d2,H',⟨d26⟩,⟨by (with_reducible repeat (first|apply Kd.R_alloc|apply Kd.R_drewN|apply Kd.R_drew));exact HO202.out⟩,⟨d0⟩⟩
    rw [if_neg c3] at H
    exact absurd H d20
   rw [if_neg c2] at H
   have c2b0:decide (x4_1 < a0)=false:=decide_eq_false c2
   clear c2
   obtain rfl:=Option.some.inj H
   go_wp2
   go_ret
   exact ⟨_,d5,d28,d0⟩

mutual
def spec_l2Cauchy.l0:Nat→Int→Int→Int→List (List Int)→Option ((List (List Int)))
 | 0,_,_,_,_=>none
 | k+1,x1,x13,x14,x208000=>if x14 < x13 then (if 0≤x14 then (if x14 < (x208000.length:Int) then (spec_l2Cauchy.l1 k x1 x14 x13 x14 ((rd_L5 x208000 x14).length:Int) 0 x208000) else (none)) else (none)) else (some x208000)
def spec_l2Cauchy.l1:Nat→Int→Int→Int→Int→Int→Int→List (List Int)→Option ((List (List Int)))
 | 0,_,_,_,_,_,_,_=>none
 | k+1,x1,x6,x13,x14,x22,x23,x208000=>if x23 < x22 then (if 0≤x6 then (if x6 < (x208000.length:Int) then ((spec_l1Inverse.f k ((Go.bits .xor .i64 (wrap64 (x1+x6)) x23) % 256)).bind fun t210=>(if 0≤x23 then (if x23 < ((rd_L5 x208000 x6).length:Int) then (spec_l2Cauchy.l1 k x1 x6 x13 x14 x22 (wrap64 (x23+1)) (x208000.set (x6:Int).toNat ((rd_L5 x208000 x6).set (x23:Int).toNat t210))) else (none)) else (none))) else (none)) else (none)) else (spec_l2Cauchy.l0 k x1 x13 (wrap64 (x14+1)) x208000)
end
def spec_l2Cauchy.f (k:Nat) (a0:Int) (a1:Int):Option ((List (List Int))):=(spec_l2Blank.f k a0 a1).bind fun t204=>(spec_l2Cauchy.l0 k a1 (t204.length:Int) 0 t204)
theorem spec_l2Cauchy.mono_l:∀ k,(∀ y0 y1 y2 y3,LeO (spec_l2Cauchy.l0 k y0 y1 y2 y3) (spec_l2Cauchy.l0 (k+1) y0 y1 y2 y3))∧(∀ y0 y1 y2 y3 y4 y5 y6,LeO (spec_l2Cauchy.l1 k y0 y1 y2 y3 y4 y5 y6) (spec_l2Cauchy.l1 (k+1) y0 y1 y2 y3 y4 y5 y6))
 | 0=>⟨fun _ _ _ _ r h=>by simp [spec_l2Cauchy.l0] at h,fun _ _ _ _ _ _ _ r h=>by simp [spec_l2Cauchy.l1] at h⟩
 | k+1=>by
  obtain ⟨ih0,ih1⟩:=spec_l2Cauchy.mono_l k
  refine ⟨?_,?_⟩
  ·intro y0 y1 y2 y3
   unfold spec_l2Cauchy.l0
   repeat' first
   | (with_reducible exact ih0 _ _ _ _)
   | (with_reducible exact ih1 _ _ _ _ _ _ _)
   | (with_reducible exact spec_l1Inverse.mono _ _)
   | (with_reducible exact spec_l2Blank.mono _ _ _)
   |(with_reducible exact LeO.refl _)|(with_reducible exact LeO.none _)|(with_reducible refine LeO.ite ?_ ?_)|(with_reducible refine LeO.bind ?_ (fun _=>?_))|exact ih0 _ _ _ _|exact ih1 _ _ _ _ _ _ _|exact spec_l1Inverse.mono _ _|exact spec_l2Blank.mono _ _ _|exact LeO.none _|refine LeO.ite ?_ ?_|refine LeO.bind ?_ (fun _=>?_)
  intro y0 y1 y2 y3 y4 y5 y6
  unfold spec_l2Cauchy.l1
  repeat' first
  | (with_reducible exact ih0 _ _ _ _)
  | (with_reducible exact ih1 _ _ _ _ _ _ _)
  | (with_reducible exact spec_l1Inverse.mono _ _)
  | (with_reducible exact spec_l2Blank.mono _ _ _)
  |(with_reducible exact LeO.refl _)|(with_reducible exact LeO.none _)|(with_reducible refine LeO.ite ?_ ?_)|(with_reducible refine LeO.bind ?_ (fun _=>?_))|exact ih0 _ _ _ _|exact ih1 _ _ _ _ _ _ _|exact spec_l1Inverse.mono _ _|exact spec_l2Blank.mono _ _ _|exact LeO.none _|refine LeO.ite ?_ ?_|refine LeO.bind ?_ (fun _=>?_)
theorem spec_l2Cauchy.mono:∀ a0 a1 k,LeO (spec_l2Cauchy.f k a0 a1) (spec_l2Cauchy.f (k+1) a0 a1):=by
 intro a0 a1 k
 obtain ⟨ih0,ih1⟩:=spec_l2Cauchy.mono_l k
 unfold spec_l2Cauchy.f
 repeat' first
   | (with_reducible exact ih0 _ _ _ _)
   | (with_reducible exact ih1 _ _ _ _ _ _ _)
   | (with_reducible exact spec_l1Inverse.mono _ _)
   | (with_reducible exact spec_l2Blank.mono _ _ _)
   |(with_reducible exact LeO.refl _)|(with_reducible exact LeO.none _)|(with_reducible refine LeO.ite ?_ ?_)|(with_reducible refine LeO.bind ?_ (fun _=>?_))|exact ih0 _ _ _ _|exact ih1 _ _ _ _ _ _ _|exact spec_l1Inverse.mono _ _|exact spec_l2Blank.mono _ _ _|exact LeO.none _|refine LeO.ite ?_ ?_|refine LeO.bind ?_ (fun _=>?_)
def spec_l2Cauchy.T8:Bool × List (List Nat × List Nat):=(true,[([],[]),([0],[0]),([],[]),([1,2],[1,2]),([3],[3]),([],[]),([],[]),([],[]),([6,7],[6,7]),([],[]),([8,9],[8,9]),([10],[10]),([11],[11]),([4,5,0,1,2,3,4,5,6,7,8,9,10,11,12],[4,5]),([13,12,12,0,1,2,3,4,5,6,7,8,9,10,11,12],[12,13])])
def spec_l2Cauchy.B8:List Nat:=[0,1,0,7,15,0,0,0,192,0,960,1984,4032,8191,16383]
theorem spec_l2Cauchy.tab8:rtab .any (opsOf Try.f186 8)=spec_l2Cauchy.T8:=by kernel_rfl
theorem spec_l2Cauchy.bits8:waitsOk spec_l2Cauchy.T8.2 spec_l2Cauchy.B8=true:=by kernel_rfl
theorem spec_l2Cauchy.calls (k:Nat) (a0:Int) (a1:Int) (r:List (List Int)) (w:World) (h:spec_l2Cauchy.f k a0 a1=some r) :
  Calls Try.prog 186 #[.int .i64 a0, .int .i64 a1] w fun e w'=>∃ v0_:Value,e = .returned (.agg #[v0_])∧Kd.S (Kd.slice 5 (Kd.int .u8)) 57 w' w.heap.size (fun _=>True) v0_ r∧Below w.heap.size w w':=by
 have hu43:=Try.underlying43
 have HB:=am (Below.refl w.heap.size w)
 have H:((spec_l2Blank.f k a0 a1).bind fun t204=>(spec_l2Cauchy.l0 k a1 (t204.length:Int) 0 t204))=some r:=h
 clear h
 replace H:=Option.bind_eq_some_iff.mp H
 obtain ⟨t204,A30,H⟩:=H
 replace H:(spec_l2Cauchy.l0 k a1 (t204.length:Int) 0 t204)=some r:=H
 have A3:=am A30
 clear A30
 have H':=am H
 clear H
 go_enter Try.func186,Try.ntmps186
 go_wp2_with (first|((with_reducible refine gate_dst (N:=4) rfl ?_);refine box_event ?hg (N:=4) ?hd (cs:=#[.slice none 0 0]) (t:=43) ?hr ?_;(case hd=>rfl);(case hg=>rfl);(case hr=>first|(go_simp;done)|(go_simp;rfl));intro gb203 hg w4 hbox hb;have n0_:=am (pu d0 hb);have n1_:=am (hbox);have n2_:=am ((by rw [hg];exact (pz d0):w.heap.size≤gb203));have n3_:=n2_;clear HB;have HB:=n0_;have BK203:=n1_;have GW203:=n2_;have GE203:=n3_;clear n0_ n1_ n2_ n3_;clear hb hbox hg)|((with_reducible refine gate_callee (f:=172) rfl ?_);refine goesL_ (some 10) rfl rfl Try.func172 d3 rfl #[.int .i64 a0, .int .i64 a1] rfl d4 ?_;(with_reducible refine (spec_l2Blank.calls k a0 a1 t204 _ A3.out).mono ?_);rintro e w5 ⟨v205,rfl,ho0,hb⟩;refine ⟨_,rfl,?_⟩;have n0_:=am (Kd.S_lower ho0 (pz (by repeat (first|(with_reducible first|exact HB.out|apply pa|apply pb|apply pd|refine pt ?_ GE203.out)|exact HB.out))));have n1_:=am (qb (g:=gb203) (o:=.cells #[.slice none 0 0] 43 (0,0)) (by (with_reducible repeat (first|refine qn ?_ _|refine qd ?_|refine qa ?_ _));exact BK203.out) hb);have n2_:=am (pu (by repeat (first|(with_reducible first|exact HB.out|apply pa|apply pb|apply pd|refine pt ?_ GE203.out)|exact HB.out)) hb);clear BK203;clear HB;have HO206:=n0_;have BK203:=n1_;have HB:=n2_;clear n0_ n1_ n2_;(try clear hb);(try clear hb2);(try clear hk);(try clear hi);(try clear ho0))|((with_reducible refine gate_dst (N:=5) rfl ?_);refine box_event ?hg (N:=5) ?hd (cs:=#[.slice none 0 0]) (t:=43) ?hr ?_;(case hd=>rfl);(case hg=>rfl);(case hr=>first|(go_simp;done)|(go_simp;rfl));intro gb207 hg w6 hbox hb;have n0_:=am (Kd.S_below (by (with_reducible repeat (first|apply Kd.S_alloc|apply Kd.S_drewN|apply Kd.S_drew));exact HO206.out) hb);have n1_:=am (qb (g:=gb203) (o:=.cells #[.slice none 0 0] 43 (0,0)) (by (with_reducible repeat (first|refine qn ?_ _|refine qd ?_|refine qa ?_ _));exact BK203.out) hb);have n2_:=am (pu (by repeat (first|(with_reducible first|exact HB.out|apply pa|apply pb|apply pd|refine pt ?_ GE203.out)|exact HB.out)) hb);have n3_:=am (hbox);have n4_:=am ((by rw [hg];exact (pz (by repeat (first|(with_reducible first|exact HB.out|apply pa|apply pb|apply pd|refine pt ?_ GE203.out)|exact HB.out))):w.heap.size≤gb207));have n5_:=n4_;have n6_:=am ((by rw [hg];exact Nat.ne_of_lt (blk_lt (g:=gb203) (o:=.cells #[.slice none 0 0] 43 (0,0)) (by (with_reducible repeat (first|refine qn ?_ _|refine qd ?_|refine qa ?_ _));exact BK203.out)):gb203 ≠ gb207));have n7_:=am ((by rw [hg];exact Nat.ne_of_gt (blk_lt (g:=gb203) (o:=.cells #[.slice none 0 0] 43 (0,0)) (by (with_reducible repeat (first|refine qn ?_ _|refine qd ?_|refine qa ?_ _));exact BK203.out)):gb207 ≠ gb203));clear HO206;clear BK203;clear HB;have HO206:=n0_;have BK203:=n1_;have HB:=n2_;have BK207:=n3_;have GW207:=n4_;have GE207:=n5_;have NB203_207:=n6_;have NB207_203:=n7_;clear n0_ n1_ n2_ n3_ n4_ n5_ n6_ n7_;clear hb hbox hg;obtain ⟨Ao7,co7,eo7⟩:=Kd.S_slice HO206.out;subst eo7;have hnb8:=NB207_203.out;have hnc8:=NB203_207.out;have hcz9_0:w6.cell? ⟨gb207,0,none⟩=some (.slice none 0 0):=(blk_cell BK207.out 0).trans rfl;have hfz9_0:=blk_frozen BK207.out 0))
 go_loopg [14] k (fun kq v14 w'=>∃ (x14_1:Int) (x208000_1:List (List Int)) (u208000:Value),v14 = .int .i64 x14_1∧Aside0 (spec_l2Cauchy.l0 kq a1 (t204.length:Int) x14_1 x208000_1=some r)∧Aside0 (kq≤k)∧Aside0 (Kd.S (Kd.slice 5 (Kd.int .u8)) 57 w' w.heap.size (fun _=>True) u208000 x208000_1)∧Aside0 (w'.heap[gb203]? = some (.cells #[(.slice none 0 0)] 43 (0,0)))∧Aside0 (w'.heap[gb207]? = some (.cells #[u208000] 43 (0,0)))∧Aside0 (Below w.heap.size w w'))
 case atStart=>exact ⟨(0),(t204),(.slice Ao7 t204.length co7),d2,H',⟨Nat.le_refl _⟩,⟨by (with_reducible repeat (first|apply Kd.S_alloc|apply Kd.S_drewN|apply Kd.S_drew));exact Kd.S_mono (Kd.S_far (p:=⟨gb207,0,none⟩) (Kd.S_types HO206.out BK207.out d11) (fun _ hk=>hk.2) (.slice Ao7 t204.length co7)) (fun _ hk=>trivial)⟩,⟨by (with_reducible repeat (first|refine qn ?_ _|refine qd ?_|refine qa ?_ _));refine blk_far ?_ NB203_207.out _;(with_reducible repeat (first|refine qn ?_ _|refine qd ?_|refine qa ?_ _));exact BK203.out⟩,⟨by (with_reducible repeat (first|refine qn ?_ _|refine qd ?_|refine qa ?_ _));refine blk_put (cs:=#[.slice none 0 0]) ?_ 0 _ rfl;(with_reducible repeat (first|refine qn ?_ _|refine qd ?_|refine qa ?_ _));exact BK207.out⟩,⟨by repeat (first|(with_reducible first|exact HB.out|apply pa|apply pb|apply pd|refine pt ?_ GE203.out|refine pt ?_ GE207.out)|exact HB.out)⟩⟩
 case round =>
  clear H'
  try clear c1
  try clear p2
  try clear c8
  try clear hcz9_0
  try clear hfz9_0
  obtain ⟨x14_1,x208000_1,u208000,rfl,HA,HK1,HO_208000,BK203,BK207,HB⟩:=hrel
  cases gk with
  | zero=>exact absurd HA.out (by simp [spec_l2Cauchy.l0])
  | succ k1 =>
   have H:=HA.out
   clear HA
   simp only [spec_l2Cauchy.l0] at H
   by_cases c10:x14_1 < (t204.length:Int)
   ·rw [if_pos c10] at H
    have c10b0:decide (x14_1 < (t204.length:Int))=true:=decide_eq_true c10
    clear c10
    by_cases c11:0≤x14_1
    ·rw [if_pos c11] at H
     have c11b0:decide (0≤x14_1)=true:=decide_eq_true c11
     clear c11
     by_cases c12:x14_1 < (x208000_1.length:Int)
     ·rw [if_pos c12] at H
      have c12b0:decide (x14_1 < (x208000_1.length:Int))=true:=decide_eq_true c12
      clear c12
      have H':=am H
      clear H
      have hnb13:=NB207_203.out
      have hnc13:=NB203_207.out
      have hcz14_0:wr.cell? ⟨gb207,0,none⟩=some (u208000):=(blk_cell BK207.out 0).trans rfl
      have hfz14_0:=blk_frozen BK207.out 0
      obtain ⟨Ao15,co15,eo15⟩:=Kd.S_slice HO_208000.out
      subst eo15
      have p208:0≤(x14_1:Int):=od d1
      have q208:x14_1 < (x208000_1.length:Int):=od d1
      obtain ⟨ad208,A208_0,c208_0,e208,hx208_0,hl208_0,hi208_0⟩:=at_L5 (Kd.S_reads' HO_208000.out).2.2 x14_1 p208 q208
      cases e208
      obtain ⟨ce208,hce208,hMe208,hcc208⟩:=Kd.S_get HO_208000.out [] x14_1 p208 (by first|exact q208|exact od d1|(have e_:=(Kd.S_reads' HO_208000.out).1;omega))
      obtain ⟨ve208_0,rfl,ge208_0⟩:=hMe208
      have hv208_0:=hcc208 0 _ rfl
      rw [Nat.add_zero,show ((Kd.slice 5 (Kd.int .u8))).sz=1 from rfl,Nat.mul_one] at hv208_0
      replace hv208_0:=Option.some.inj (hv208_0.symm.trans hx208_0)
      rw [hv208_0] at ge208_0
      have HL208_0:=am (show Kd.R (Kd.int .u8) 5 _ _ _ _ (rd_L5 x208000_1 x14_1) from ge208_0)
      clear hv208_0 ge208_0
      have HX208_0:=am hx208_0
      clear hcc208 hce208
      have HR208_0:=am hi208_0
      have HC208_0:=am hl208_0
      clear hi208_0 hl208_0
      replace p208:=eq_true p208
      replace q208:=eq_true q208
      go_wp2
      go_loopg [23] k1 (fun kq v23 w'=>∃ (x23_2:Int) (x208000_2:List (List Int)) (u208000:Value),v23 = .int .i64 x23_2∧Aside0 (spec_l2Cauchy.l1 kq a1 x14_1 (t204.length:Int) x14_1 ((rd_L5 x208000_1 x14_1).length:Int) x23_2 x208000_2=some r)∧Aside0 (kq≤k1)∧Aside0 (Kd.S (Kd.slice 5 (Kd.int .u8)) 57 w' w.heap.size (fun _=>True) u208000 x208000_2)∧Aside0 (w'.heap[gb203]? = some (.cells #[(.slice none 0 0)] 43 (0,0)))∧Aside0 (w'.heap[gb207]? = some (.cells #[u208000] 43 (0,0)))∧Aside0 (Below w.heap.size w w'))
      case atStart=>exact ⟨(0),(x208000_1),(.slice (some ad208) x208000_1.length co15),d2,H',⟨Nat.le_refl _⟩,⟨by (with_reducible repeat (first|apply Kd.S_alloc|apply Kd.S_drewN|apply Kd.S_drew));exact HO_208000.out⟩,⟨by (with_reducible repeat (first|refine qn ?_ _|refine qd ?_|refine qa ?_ _));exact BK203.out⟩,⟨by (with_reducible repeat (first|refine qn ?_ _|refine qd ?_|refine qa ?_ _));exact BK207.out⟩,⟨by repeat (first|(with_reducible first|exact HB.out|apply pa|apply pb|apply pd|refine pt ?_ GE203.out|refine pt ?_ GE207.out)|exact HB.out)⟩⟩
      case round =>
       clear H'
       try clear c1
       try clear c2
       try clear p2
       try clear q2
       try clear hx2
       try clear c8
       try clear c10
       try clear c10b0
       try clear c11
       try clear c11b0
       try clear c12
       try clear c12b0
       try clear c13
       try clear hcz14_0
       try clear hcz9_0
       try clear hfz14_0
       try clear hfz9_0
       try clear hx208_0
       try clear p2
       try clear p208
       try clear q208
       obtain ⟨x23_2,x208000_2,u208000,rfl,HA,HK2,HO_208000,BK203,BK207,HB⟩:=hrel
       cases gk with
       | zero=>exact absurd HA.out (by simp [spec_l2Cauchy.l1])
       | succ k2 =>
        have H:=HA.out
        clear HA
        simp only [spec_l2Cauchy.l1] at H
        by_cases c16:x23_2 < ((rd_L5 x208000_1 x14_1).length:Int)
        ·rw [if_pos c16] at H
         have c16b0:decide (x23_2 < ((rd_L5 x208000_1 x14_1).length:Int))=true:=decide_eq_true c16
         clear c16
         by_cases c17:0≤x14_1
         ·rw [if_pos c17] at H
          have c17b0:decide (0≤x14_1)=true:=decide_eq_true c17
          clear c17
          by_cases c18:x14_1 < (x208000_2.length:Int)
          ·rw [if_pos c18] at H
           have c18b0:decide (x14_1 < (x208000_2.length:Int))=true:=decide_eq_true c18
           clear c18
           replace H:=Option.bind_eq_some_iff.mp H
           obtain ⟨t210,A190,H⟩:=H
           replace H:(if 0≤x23_2 then (if x23_2 < ((rd_L5 x208000_2 x14_1).length:Int) then (spec_l2Cauchy.l1 k2 a1 x14_1 (t204.length:Int) x14_1 ((rd_L5 x208000_1 x14_1).length:Int) (wrap64 (x23_2+1)) (x208000_2.set (x14_1:Int).toNat ((rd_L5 x208000_2 x14_1).set (x23_2:Int).toNat t210))) else (none)) else (none))=some r:=H
           have A19:=am A190
           clear A190
           by_cases c20:0≤x23_2
           ·rw [if_pos c20] at H
            have c20b0:decide (0≤x23_2)=true:=decide_eq_true c20
            clear c20
            by_cases c21:x23_2 < ((rd_L5 x208000_2 x14_1).length:Int)
            ·rw [if_pos c21] at H
             have c21b0:decide (x23_2 < ((rd_L5 x208000_2 x14_1).length:Int))=true:=decide_eq_true c21
             clear c21
             obtain ⟨y211,hy211⟩:∃ y_:List Int,y_=((rd_L5 x208000_2 x14_1).set (x23_2:Int).toNat t210):=⟨_,rfl⟩
             replace H:(spec_l2Cauchy.l1 k2 a1 x14_1 (t204.length:Int) x14_1 ((rd_L5 x208000_1 x14_1).length:Int) (wrap64 (x23_2+1)) (x208000_2.set (x14_1:Int).toNat y211))=some r:=by first|(rw [hy211];with_reducible exact H)|(have H2_:=(Option.bind_some _ _).symm.trans H;rw [hy211];with_reducible exact H2_)|(have H2_:=(Option.bind_some _ _).symm.trans H;with_reducible exact H2_)|with_reducible exact H|(rw [hy211];exact H)|exact H
             have Ny211:=am hy211
             clear hy211
             obtain ⟨y213,hy213⟩:∃ y_:List (List Int),y_=(x208000_2.set (x14_1:Int).toNat y211):=⟨_,rfl⟩
             replace H:(spec_l2Cauchy.l1 k2 a1 x14_1 (t204.length:Int) x14_1 ((rd_L5 x208000_1 x14_1).length:Int) (wrap64 (x23_2+1)) y213)=some r:=by first|(rw [hy213];with_reducible exact H)|(have H2_:=(Option.bind_some _ _).symm.trans H;rw [hy213];with_reducible exact H2_)|(have H2_:=(Option.bind_some _ _).symm.trans H;with_reducible exact H2_)|with_reducible exact H|(rw [hy213];exact H)|exact H
             have Ny213:=am hy213
             clear hy213
             have H':=am H
             clear H
             try go_wp2
             have n0_:=am (Kd.S_drew HO_208000.out)
             have n1_:=am (qd BK203.out)
             have n2_:=am (qd BK207.out)
             have n3_:=am (pd HB.out)
             clear HO_208000
             clear BK203
             clear BK207
             clear HB
             have HO_208000:=n0_
             have BK203:=n1_
             have BK207:=n2_
             have HB:=n3_
             clear n0_ n1_ n2_ n3_
             obtain ⟨Ao24,co24,eo24⟩:=Kd.S_slice HO_208000.out
             (first|subst eo24|(injection eo24 with f1_ f2_ f3_;have f4_:=f1_.symm;have f5_:=f3_.symm;clear f1_ f2_ f3_;subst f4_;subst f5_))
             have p209:0≤(x14_1:Int):=od d1
             have q209:x14_1 < (x208000_2.length:Int):=od d1
             obtain ⟨ad209,A209_0,c209_0,e209,hx209_0,hl209_0,hi209_0⟩:=at_L5 (Kd.S_reads' HO_208000.out).2.2 x14_1 p209 q209
             cases e209
             obtain ⟨ce209,hce209,hMe209,hcc209⟩:=Kd.S_get HO_208000.out [] x14_1 p209 (by first|exact q209|exact od d1|(have e_:=(Kd.S_reads' HO_208000.out).1;omega))
             obtain ⟨ve209_0,rfl,ge209_0⟩:=hMe209
             have hv209_0:=hcc209 0 _ rfl
             rw [Nat.add_zero,show ((Kd.slice 5 (Kd.int .u8))).sz=1 from rfl,Nat.mul_one] at hv209_0
             replace hv209_0:=Option.some.inj (hv209_0.symm.trans hx209_0)
             rw [hv209_0] at ge209_0
             have HL209_0:=am (show Kd.R (Kd.int .u8) 5 _ _ _ _ (rd_L5 x208000_2 x14_1) from ge209_0)
             clear hv209_0 ge209_0
             have HX209_0:=am hx209_0
             clear hcc209 hce209
             have HR209_0:=am hi209_0
             have HC209_0:=am hl209_0
             clear hi209_0 hl209_0
             replace p209:=eq_true p209
             replace q209:=eq_true q209
             refine rS (n:=15) (S:=fun w'=>w'.cell? ⟨gb207,0,none⟩=some (.slice (some ad209) x208000_2.length co24)∧w'.cell? (ad209.add (x14_1).toNat)=some (.slice A209_0 (rd_L5 x208000_2 x14_1).length c209_0)) (ds:=[14]) [(0,26),(2,28),(5,31),(6,32),(7,33),(8,34),(9,35),(10,36),(11,37),(1,27),(3,29),(4,30),(12,0),(13,39),(14,0)] d3 rfl spec_l2Cauchy.tab8 spec_l2Cauchy.bits8 ⟨(blk_cell BK207.out 0).trans rfl,hx209_0⟩ (fun hHeld HT_ HW_=>?_)
             generalize wr.drew=w23 at HO_208000 BK203 BK207 HB HL209_0 HR209_0 HX209_0 hx209_0 hHeld ⊢
             refine rR ?_
             refine rO (N:=some 38) HT_ rfl rfl d3 d11 (fun K hK=>?_)
             refine goes_ Try.func203 d3 rfl #[.int .u8 ((Go.bits .xor .i64 (wrap64 (a1+x14_1)) x23_2) % 256)] d16 rfl rfl d4 ?_
             with_reducible refine (spec_l1Inverse.calls k2 ((Go.bits .xor .i64 (wrap64 (a1+x14_1)) x23_2) % 256) t210 _ A19.out).mono ?_
             rintro e w' ⟨rfl,⟨nd,rfl⟩⟩
             refine ⟨_,rfl,?_⟩
             have p22:0≤(x23_2:Int):=od d1
             have q22:(x23_2:Int) < (((rd_L5 x208000_2 x14_1).length:Int):Int):=od d1
             obtain ⟨go22,co22,eo22,gb22,gl22,cl22,HG22⟩:=Kd.R_form HL209_0.out d6
             (first|cases eo22|(injection eo22 with ea_ en_ ec_;(first|subst ea_|(injection ea_ with ea_;subst ea_));subst ec_;clear en_))
             have GB22:=am gb22
             have GG22:=am HG22
             clear gb22 gl22 HG22
             obtain ⟨hx22_0,hf22_0⟩:=Kd.R_celln 0 HL209_0.out (x23_2:Int) p22 q22
             replace p22:=eq_true p22
             replace q22:=eq_true q22
             have hq25:(x14_1:Int) < (x208000_2.length:Int):=(by have h_:(x14_1:Int) < ((x208000_2.length:Int):Int):=od d1;first|exact h_|(have e_:=(Kd.S_reads' HO_208000.out).1;omega)|simpa only [List.length_set,List.length_set] using h_)
             obtain ⟨oki25,ce25,hcl25,hM25,hcc25,hok25,hbk25⟩:=Kd.S_borrow HO_208000.out [] (x14_1:Int) (od d1) hq25
             obtain ⟨ve25_0,rfl,ge25_0⟩:=hM25
             have hv25:=hcc25 0 _ rfl
             rw [Nat.add_zero,show ((Kd.slice 5 (Kd.int .u8))).sz=1 from rfl,Nat.mul_one] at hv25
             replace hv25:=Option.some.inj (hv25.symm.trans HX209_0.out)
             subst hv25
             clear hcc25 hcl25
             replace ge25_0:=(show Kd.R (Kd.int .u8) 5 _ _ _ _ (rd_L5 x208000_2 x14_1) from ge25_0)
             have HP25:=Kd.R_putg ge25_0 (x23_2:Int) t210
             rw [← Ny211.out] at HP25
             have HS25:=hbk25 HP25.2 (fun k_ e_=>by injection e_ with e_;subst e_;exact ge25_0.1 _ rfl) (x':=y211) (Kd.M_row HP25.1)
             rw [← Ny213.out] at HS25
             have HQ25:=am HS25
             clear HP25 HS25 hbk25 hok25
             refine hK.out _ _ ⟨(blk_cell BK207.out 0).trans rfl,hHeld.2⟩ (fun hHeld=>?_)
             clear hK K
             refine rN (a':=?_) ?_ ?_
             rotate_left
             ·show Act.put _ (some 38) _=_
              simp only [Act.put,q1,q2,q3,i64_w,i32_w]
              rfl
             refine rR ?_
             refine rL (N:=none) HT_ rfl rfl d3 d11 (fun K hK=>?_)
             refine skip_ (w1:=?_) d16 rfl ?_ ?_
             rotate_left
             ·go_simp
              rfl
             refine hK.out _ _ ?_
             clear hK K
             refine rD HT_ d3 ?_
             try go_wp2
             go_roundg k2
             case measure=>have:=HK1.out;have:=HK2.out;omega
             case rel=>exact ⟨(wrap64 (x23_2+1)),(y213),(.slice (some ad209) x208000_2.length co24),d2,H',⟨d40⟩,⟨by (with_reducible repeat (first|apply Kd.S_alloc|apply Kd.S_drewN|apply Kd.S_drew));exact HQ25.out⟩,⟨by (with_reducible repeat (first|refine qn ?_ _|refine qd ?_|refine qa ?_ _));refine blk_far ?_ (by have h_:=Kd.R_ne HL209_0.out BK203.out d11;intro e_;exact h_ (by rw [e_];rfl)) _;(with_reducible repeat (first|refine qn ?_ _|refine qd ?_|refine qa ?_ _));exact BK203.out⟩,⟨by (with_reducible repeat (first|refine qn ?_ _|refine qd ?_|refine qa ?_ _));refine blk_far ?_ (by have h_:=Kd.R_ne HL209_0.out BK207.out d11;intro e_;exact h_ (by rw [e_];rfl)) _;(with_reducible repeat (first|refine qn ?_ _|refine qd ?_|refine qa ?_ _));exact BK207.out⟩,⟨by repeat (first|(with_reducible first|exact HB.out|apply pa|apply pb|apply pd|refine pt ?_ GB22.out|refine pt ?_ GE203.out|refine pt ?_ GE207.out)|exact HB.out)⟩⟩
            rw [if_neg c21] at H
            exact absurd H d20
           rw [if_neg c20] at H
           exact absurd H d20
          rw [if_neg c18] at H
          exact absurd H d20
         rw [if_neg c17] at H
         exact absurd H d20
        rw [if_neg c16] at H
        have c16b0:decide (x23_2 < ((rd_L5 x208000_1 x14_1).length:Int))=false:=decide_eq_false c16
        clear c16
        have H':=am H
        clear H
        go_wp2
        go_roundg k2
        case measure=>have:=HK1.out;have:=HK2.out;omega
        case rel=>exact ⟨(wrap64 (x14_1+1)),(x208000_2),(u208000),d2,H',⟨d40⟩,⟨by (with_reducible repeat (first|apply Kd.S_alloc|apply Kd.S_drewN|apply Kd.S_drew));exact HO_208000.out⟩,⟨by (with_reducible repeat (first|refine qn ?_ _|refine qd ?_|refine qa ?_ _));exact BK203.out⟩,⟨by (with_reducible repeat (first|refine qn ?_ _|refine qd ?_|refine qa ?_ _));exact BK207.out⟩,⟨by repeat (first|(with_reducible first|exact HB.out|apply pa|apply pb|apply pd|refine pt ?_ GE203.out|refine pt ?_ GE207.out)|exact HB.out)⟩⟩
     rw [if_neg c12] at H
     exact absurd H d20
    rw [if_neg c11] at H
    exact absurd H d20
   rw [if_neg c10] at H
   have c10b0:decide (x14_1 < (t204.length:Int))=false:=decide_eq_false c10
   clear c10
   obtain rfl:=Option.some.inj H
   have hnb27:=NB207_203.out
   have hnc27:=NB203_207.out
   have hcz28_0:wr.cell? ⟨gb207,0,none⟩=some (u208000):=(blk_cell BK207.out 0).trans rfl
   have hfz28_0:=blk_frozen BK207.out 0
   obtain ⟨Ao29,co29,eo29⟩:=Kd.S_slice HO_208000.out
   subst eo29
   have hcz30_0:wr.cell? ⟨gb203,0,none⟩=some (.slice none 0 0):=(blk_cell BK203.out 0).trans rfl
   have hfz30_0:=blk_frozen BK203.out 0
   go_wp2
   refine bodyPost_ret (results_cell_row rfl _ _ gb203 43 #[.slice Ao29 x208000_1.length co29] (0,0) _ rfl (by (with_reducible repeat (first|refine qn ?_ _|refine qd ?_|refine qa ?_ _));refine blk_put (cs:=#[.slice none 0 0]) ?_ 0 _ rfl;(with_reducible repeat (first|refine qn ?_ _|refine qd ?_|refine qa ?_ _));exact BK203.out) Try.underlying43 rfl d3) rfl ?_
   exact ⟨_,d5,by (with_reducible repeat (first|apply Kd.S_alloc|apply Kd.S_drewN|apply Kd.S_drew));exact Kd.S_mono (Kd.S_far (p:=⟨gb203,0,none⟩) (Kd.S_types HO_208000.out BK203.out d11) (fun _ hk=>hk.2) (.slice Ao29 x208000_1.length co29)) (fun _ hk=>trivial),by repeat (first|(with_reducible first|exact HB.out|apply pa|apply pb|apply pd|refine pt ?_ GE203.out|refine pt ?_ GE207.out)|exact HB.out)⟩

end Go.Proofs.Ytajikfnpcobnpaa.PFnExactCheckShards
-- HALVED
-- SQUEEZED
-- SQUEEZED2
-- SQUEEZED3
-- SQUEEZED4
-- SQUEEZED5
-- SQUEEZED6
