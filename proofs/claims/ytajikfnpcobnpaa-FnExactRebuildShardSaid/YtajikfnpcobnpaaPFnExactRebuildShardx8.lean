-- Laid by a program of this session.
import Derived.Test.YtajikfnpcobnpaaPFnExactRebuildShardx0
import Derived.Test.YtajikfnpcobnpaaPFnExactRebuildShardx4
import Derived.Test.YtajikfnpcobnpaaPFnExactRebuildShardx6
namespace Go.Proofs.Ytajikfnpcobnpaa.PFnExactRebuildShard
open Go.RowKit Go.Proofs.YtajikfnpcobnpaaW.PrintWords Go.Proofs.YtajikfnpcobnpaaW.PrintLast Go.Proofs.YtajikfnpcobnpaaW.PrintMore
attribute [local go_sem] max2_int min2_int max_two min_two max_three min_three max_four min_four   -- for this text's walks alone
set_option linter.unusedVariables false
set_option linter.unusedSimpArgs false

mutual
def spec_l2Part.l0 : Nat→List Int→List Int→Int→Int→List (List Int)→List (List Int)→Option ((List (List Int)))
 | 0,_,_,_,_,_,_=>none
 | k+1,x2,x14,x15,x16,x173000,x175000=>if x16 < x15 then (if 0≤x16 then (if x16 < (x14.length : Int) then (spec_l2Part.l1 k x2 (rd x14 x16) ([] : List Int) x14 x15 x16 x2 (x2.length : Int) 0 x173000 x175000) else (none)) else (none)) else (some x175000)
def spec_l2Part.l1 : Nat→List Int→Int→List Int→List Int→Int→Int→List Int→Int→Int→List (List Int)→List (List Int)→Option ((List (List Int)))
 | 0,_,_,_,_,_,_,_,_,_,_,_=>none
 | k+1,x2,x9,x10,x14,x15,x16,x20,x21,x22,x173000,x175000=>if x22 < x21 then (if 0≤x22 then (if x22 < (x20.length : Int) then (if 0≤x9 then (if x9 < (x173000.length : Int) then (if 0≤(rd x20 x22) then (if (rd x20 x22) < ((rd_L5 x173000 x9).length : Int) then (if x10.length < 140737488355328 then (spec_l2Part.l1 k x2 x9 (x10 ++ [rd (rd_L5 x173000 x9) (rd x20 x22)]) x14 x15 x16 x20 x21 (wrap64 (x22+1)) x173000 x175000) else (none)) else (none)) else (none)) else (none)) else (none)) else (none)) else (none)) else (if x175000.length < 5864062014805 then (spec_l2Part.l0 k x2 x14 x15 (wrap64 (x16+1)) x173000 (x175000 ++ [x10])) else (none))
end
def spec_l2Part.f (k : Nat) (l0_0 : List (List Int)) (l1 : List Int) (l2 : List Int) : Option ((List (List Int))):=spec_l2Part.l0 k l2 l1 (l1.length : Int) 0 l0_0 ([] : List (List Int))
theorem spec_l2Part.mono_l : ∀ k,(∀ y0 y1 y2 y3 y4 y5,LeO (spec_l2Part.l0 k y0 y1 y2 y3 y4 y5) (spec_l2Part.l0 (k+1) y0 y1 y2 y3 y4 y5))∧(∀ y0 y1 y2 y3 y4 y5 y6 y7 y8 y9 y10,LeO (spec_l2Part.l1 k y0 y1 y2 y3 y4 y5 y6 y7 y8 y9 y10) (spec_l2Part.l1 (k+1) y0 y1 y2 y3 y4 y5 y6 y7 y8 y9 y10))
 | 0=>⟨fun _ _ _ _ _ _ r h=>by simp [spec_l2Part.l0] at h,fun _ _ _ _ _ _ _ _ _ _ _ r h=>by simp [spec_l2Part.l1] at h⟩
 | k+1=>by
  obtain ⟨ih0,ih1⟩:=spec_l2Part.mono_l k
  refine ⟨?_,?_⟩
  ·intro y0 y1 y2 y3 y4 y5
   unfold spec_l2Part.l0
   repeat' first
   | (with_reducible exact ih0 _ _ _ _ _ _)
   | (with_reducible exact ih1 _ _ _ _ _ _ _ _ _ _ _)
   | (with_reducible exact LeO.refl _)
   | (with_reducible exact LeO.none _)
   | (with_reducible refine LeO.ite ?_ ?_)
   | (with_reducible refine LeO.bind ?_ (fun _=>?_))
   | exact ih0 _ _ _ _ _ _
   | exact ih1 _ _ _ _ _ _ _ _ _ _ _
   | exact LeO.none _
   | refine LeO.ite ?_ ?_
   | refine LeO.bind ?_ (fun _=>?_)
  ·intro y0 y1 y2 y3 y4 y5 y6 y7 y8 y9 y10
   unfold spec_l2Part.l1
   repeat' first
   | (with_reducible exact ih0 _ _ _ _ _ _)
   | (with_reducible exact ih1 _ _ _ _ _ _ _ _ _ _ _)
   | (with_reducible exact LeO.refl _)
   | (with_reducible exact LeO.none _)
   | (with_reducible refine LeO.ite ?_ ?_)
   | (with_reducible refine LeO.bind ?_ (fun _=>?_))
   | exact ih0 _ _ _ _ _ _
   | exact ih1 _ _ _ _ _ _ _ _ _ _ _
   | exact LeO.none _
   | refine LeO.ite ?_ ?_
   | refine LeO.bind ?_ (fun _=>?_)
theorem spec_l2Part.mono : ∀ a0 a1 a2 k,LeO (spec_l2Part.f k a0 a1 a2) (spec_l2Part.f (k+1) a0 a1 a2):=by
 intro a0 a1 a2 k
 obtain ⟨ih0,ih1⟩:=spec_l2Part.mono_l k
 unfold spec_l2Part.f
 repeat' first
   | (with_reducible exact ih0 _ _ _ _ _ _)
   | (with_reducible exact ih1 _ _ _ _ _ _ _ _ _ _ _)
   | (with_reducible exact LeO.refl _)
   | (with_reducible exact LeO.none _)
   | (with_reducible refine LeO.ite ?_ ?_)
   | (with_reducible refine LeO.bind ?_ (fun _=>?_))
   | exact ih0 _ _ _ _ _ _
   | exact ih1 _ _ _ _ _ _ _ _ _ _ _
   | exact LeO.none _
   | refine LeO.ite ?_ ?_
   | refine LeO.bind ?_ (fun _=>?_)
set_option maxHeartbeats 8000000 in
set_option maxRecDepth 100000 in
theorem spec_l2Part.calls (k : Nat) (A0_0 : Option Addr) (c0_0 : Nat) (l0_0 : List (List Int)) (A1 : Option Addr) (c1 : Nat) (l1 : List Int) (A2 : Option Addr) (c2 : Nat) (l2 : List Int) (r : List (List Int)) (w : World) (hr0_0 : Kd.C (Kd.slice 5 (Kd.int .u8)) w A0_0 l0_0.length l0_0) (hc0_0 : l0_0.length≤c0_0) (hr1 : Kd.C (Kd.int .i64) w A1 l1.length l1) (hc1 : l1.length≤c1) (hr2 : Kd.C (Kd.int .i64) w A2 l2.length l2) (hc2 : l2.length≤c2) (h : spec_l2Part.f k l0_0 l1 l2=some r) :
  Calls Try.prog 92 #[.agg #[.slice A0_0 l0_0.length c0_0], .slice A1 l1.length c1, .slice A2 l2.length c2] w fun e w'=>∃ v0_ : Value,e = .returned (.agg #[v0_])∧Kd.S (Kd.slice 5 (Kd.int .u8)) 57 w' w.heap.size (fun _=>True) v0_ r∧Below w.heap.size w w':=by
 have hu43:=Try.underlying43
 have HR0_0:=am hr0_0
 have HC0_0:=am hc0_0
 clear hr0_0 hc0_0
 have HR1:=am hr1
 have HC1:=am hc1
 clear hr1 hc1
 have HR2:=am hr2
 have HC2:=am hc2
 clear hr2 hc2
 have HB:=am (Below.refl w.heap.size w)
 have H : (spec_l2Part.l0 k l2 l1 (l1.length : Int) 0 l0_0 ([] : List (List Int)))=some r:=h
 clear h
 have H':=am H
 clear H
 go_enter Try.func92,Try.ntmps92
 go_wp2_with (first|((with_reducible refine gate_dst (N:=3) rfl ?_);refine box_event ?hg (N:=3) ?hd (cs:=#[.slice A0_0 l0_0.length c0_0]) (t:=43) ?hr ?_;(case hd=>rfl);(case hg=>rfl);(case hr=>first|(go_simp;done)|(go_simp;rfl));intro gb172 hg w4 hbox hb;have n0_:=am (pu (by repeat (first|(with_reducible first|exact HB.out|apply pa|apply pb|apply pd)|exact HB.out)) hb);have n1_:=am (hbox);have n2_:=am ((by rw [hg];exact (pz (by repeat (first|(with_reducible first|exact HB.out|apply pa|apply pb|apply pd)|exact HB.out))) : w.heap.size≤gb172));have n3_:=am ((by rw [hg];exact (pz (by repeat (first|(with_reducible first|exact HB.out|apply pa|apply pb|apply pd)|exact HB.out))) : w.heap.size≤gb172));clear HB;have HB:=n0_;have BK172:=n1_;have GW172:=n2_;have GE172:=n3_;clear n0_ n1_ n2_ n3_;clear hb hbox hg)|((with_reducible refine gate_dst (N:=6) rfl ?_);refine box_event ?hg (N:=6) ?hd (cs:=#[.slice none 0 0]) (t:=43) ?hr ?_;(case hd=>rfl);(case hg=>rfl);(case hr=>first|(go_simp;done)|(go_simp;rfl));intro gb173 hg w5 hbox hb;have n0_:=am (qb (g:=gb172) (o:=.cells #[.slice A0_0 l0_0.length c0_0] 43 (0,0)) (by (with_reducible repeat (first|refine qn ?_ _|refine qd ?_|refine qa ?_ _));exact BK172.out) hb);have n1_:=am (pu (by repeat (first|(with_reducible first|exact HB.out|apply pa|apply pb|apply pd|refine pt ?_ GE172.out)|exact HB.out)) hb);have n2_:=am (hbox);have n3_:=am ((by rw [hg];exact (pz (by repeat (first|(with_reducible first|exact HB.out|apply pa|apply pb|apply pd|refine pt ?_ GE172.out)|exact HB.out))) : w.heap.size≤gb173));have n4_:=am ((by rw [hg];exact (pz (by repeat (first|(with_reducible first|exact HB.out|apply pa|apply pb|apply pd|refine pt ?_ GE172.out)|exact HB.out))) : w.heap.size≤gb173));have n5_:=am ((by rw [hg];exact Nat.ne_of_lt (blk_lt (g:=gb172) (o:=.cells #[.slice A0_0 l0_0.length c0_0] 43 (0,0)) (by (with_reducible repeat (first|refine qn ?_ _|refine qd ?_|refine qa ?_ _));exact BK172.out)) : gb172 ≠ gb173));have n6_:=am ((by rw [hg];exact Nat.ne_of_gt (blk_lt (g:=gb172) (o:=.cells #[.slice A0_0 l0_0.length c0_0] 43 (0,0)) (by (with_reducible repeat (first|refine qn ?_ _|refine qd ?_|refine qa ?_ _));exact BK172.out)) : gb173 ≠ gb172));clear BK172;clear HB;have BK172:=n0_;have HB:=n1_;have BK173:=n2_;have GW173:=n3_;have GE173:=n4_;have NB172_173:=n5_;have NB173_172:=n6_;clear n0_ n1_ n2_ n3_ n4_ n5_ n6_;clear hb hbox hg)|((with_reducible refine gate_dst (N:=7) rfl ?_);refine box_event ?hg (N:=7) ?hd (cs:=#[.slice none 0 0]) (t:=43) ?hr ?_;(case hd=>rfl);(case hg=>rfl);(case hr=>first|(go_simp;done)|(go_simp;rfl));intro gb174 hg w6 hbox hb;have n0_:=am (qb (g:=gb172) (o:=.cells #[.slice A0_0 l0_0.length c0_0] 43 (0,0)) (by (with_reducible repeat (first|refine qn ?_ _|refine qd ?_|refine qa ?_ _));exact BK172.out) hb);have n1_:=am (qb (g:=gb173) (o:=.cells #[.slice none 0 0] 43 (0,0)) (by (with_reducible repeat (first|refine qn ?_ _|refine qd ?_|refine qa ?_ _));exact BK173.out) hb);have n2_:=am (pu (by repeat (first|(with_reducible first|exact HB.out|apply pa|apply pb|apply pd|refine pt ?_ GE172.out|refine pt ?_ GE173.out)|exact HB.out)) hb);have n3_:=am (hbox);have n4_:=am ((by rw [hg];exact (pz (by repeat (first|(with_reducible first|exact HB.out|apply pa|apply pb|apply pd|refine pt ?_ GE172.out|refine pt ?_ GE173.out)|exact HB.out))) : w.heap.size≤gb174));have n5_:=am ((by rw [hg];exact (pz (by repeat (first|(with_reducible first|exact HB.out|apply pa|apply pb|apply pd|refine pt ?_ GE172.out|refine pt ?_ GE173.out)|exact HB.out))) : w.heap.size≤gb174));have n6_:=am ((by rw [hg];exact Nat.ne_of_lt (blk_lt (g:=gb172) (o:=.cells #[.slice A0_0 l0_0.length c0_0] 43 (0,0)) (by (with_reducible repeat (first|refine qn ?_ _|refine qd ?_|refine qa ?_ _));exact BK172.out)) : gb172 ≠ gb174));have n7_:=am ((by rw [hg];exact Nat.ne_of_gt (blk_lt (g:=gb172) (o:=.cells #[.slice A0_0 l0_0.length c0_0] 43 (0,0)) (by (with_reducible repeat (first|refine qn ?_ _|refine qd ?_|refine qa ?_ _));exact BK172.out)) : gb174 ≠ gb172));have n8_:=am ((by rw [hg];exact Nat.ne_of_lt (blk_lt (g:=gb173) (o:=.cells #[.slice none 0 0] 43 (0,0)) (by (with_reducible repeat (first|refine qn ?_ _|refine qd ?_|refine qa ?_ _));exact BK173.out)) : gb173 ≠ gb174));have n9_:=am ((by rw [hg];exact Nat.ne_of_gt (blk_lt (g:=gb173) (o:=.cells #[.slice none 0 0] 43 (0,0)) (by (with_reducible repeat (first|refine qn ?_ _|refine qd ?_|refine qa ?_ _));exact BK173.out)) : gb174 ≠ gb173));clear BK172;clear BK173;clear HB;have BK172:=n0_;have BK173:=n1_;have HB:=n2_;have BK174:=n3_;have GW174:=n4_;have GE174:=n5_;have NB172_174:=n6_;have NB174_172:=n7_;have NB173_174:=n8_;have NB174_173:=n9_;clear n0_ n1_ n2_ n3_ n4_ n5_ n6_ n7_ n8_ n9_;clear hb hbox hg;have hnb7:=NB174_172.out;have hnc7:=NB172_174.out;have hnb8:=NB174_173.out;have hnc8:=NB173_174.out;have hcz9_0 : w6.cell? ⟨gb174,0,none⟩=some (.slice none 0 0):=(blk_cell BK174.out 0).trans rfl;have hfz9_0:=blk_frozen BK174.out 0))
 go_loopg [16] k (fun kq v16 w'=>∃ (x16_1 : Int) (x175000_1 : List (List Int)) (u175000 : Value),v16 = .int .i64 x16_1∧Aside0 (spec_l2Part.l0 kq l2 l1 (l1.length : Int) x16_1 l0_0 x175000_1=some r)∧Aside0 (kq≤k)∧Aside0 (Kd.S (Kd.slice 5 (Kd.int .u8)) 57 w' w.heap.size (fun _=>True) u175000 x175000_1)∧Aside0 (w'.heap[gb172]? = some (.cells #[(.slice A0_0 l0_0.length c0_0)] 43 (0,0)))∧Aside0 (w'.heap[gb173]? = some (.cells #[(.slice none 0 0)] 43 (0,0)))∧Aside0 (w'.heap[gb174]? = some (.cells #[u175000] 43 (0,0)))∧Aside0 (Below w.heap.size w w'))
 case atStart=>exact ⟨(0),(([] : List (List Int))),(.slice none 0 0),(by first|rfl|(simp;done)|(simp [*];done)),H',⟨Nat.le_refl _⟩,⟨by first|exact Kd.S_nil _ _ _ _ _|exact Kd.N_nil _ _ _ _ _|exact Kd.V_nil _ _ _ _ _|exact Kd.Q_nil _ _ _ _ _|exact Kd.R_nil _ _ _ _ _⟩,⟨by (with_reducible repeat (first|refine qn ?_ _|refine qd ?_|refine qa ?_ _));refine blk_far ?_ NB172_174.out _;(with_reducible repeat (first|refine qn ?_ _|refine qd ?_|refine qa ?_ _));exact BK172.out⟩,⟨by (with_reducible repeat (first|refine qn ?_ _|refine qd ?_|refine qa ?_ _));refine blk_far ?_ NB173_174.out _;(with_reducible repeat (first|refine qn ?_ _|refine qd ?_|refine qa ?_ _));exact BK173.out⟩,⟨by (with_reducible repeat (first|refine qn ?_ _|refine qd ?_|refine qa ?_ _));refine blk_put (cs:=#[.slice none 0 0]) ?_ 0 _ rfl;(with_reducible repeat (first|refine qn ?_ _|refine qd ?_|refine qa ?_ _));exact BK174.out⟩,⟨by repeat (first|(with_reducible first|exact HB.out|apply pa|apply pb|apply pd|refine pt ?_ GE172.out|refine pt ?_ GE173.out|refine pt ?_ GE174.out)|exact HB.out)⟩⟩
 case round =>
  clear H'
  try clear c1
  try clear c2
  try clear p2
  try clear c7
  try clear c8
  try clear c9
  try clear hcz9_0
  try clear hfz9_0
  obtain ⟨x16_1,x175000_1,u175000,rfl,HA,HK1,HO_175000,BK172,BK173,BK174,HB⟩:=hrel
  cases gk with
  | zero=>exact absurd HA.out (by simp [spec_l2Part.l0])
  | succ k1 =>
   have H:=HA.out
   clear HA
   simp only [spec_l2Part.l0] at H
   by_cases c10 : x16_1 < (l1.length : Int)
   ·rw [if_pos c10] at H
    have c10b0 : decide (x16_1 < (l1.length : Int))=true:=decide_eq_true c10
    clear c10
    by_cases c11 : 0≤x16_1
    ·rw [if_pos c11] at H
     have c11b0 : decide (0≤x16_1)=true:=decide_eq_true c11
     clear c11
     by_cases c12 : x16_1 < (l1.length : Int)
     ·rw [if_pos c12] at H
      have c12b0 : decide (x16_1 < (l1.length : Int))=true:=decide_eq_true c12
      clear c12
      have H':=am H
      clear H
      have p175 : 0≤(x16_1 : Int):=of_decide_eq_true (by first|(with_reducible assumption)|assumption)
      have q175 : x16_1 < (l1.length : Int):=of_decide_eq_true (by first|(with_reducible assumption)|assumption)
      obtain ⟨ad175,e175,hx175_0⟩:=Kd.at_int HR1.out x16_1 p175 q175
      cases e175
      replace hx175_0:=(HB.out.cell (World.block_lt_of_cell? w _ hx175_0)).trans hx175_0
      replace p175:=eq_true p175
      replace q175:=eq_true q175
      go_wp2
      go_loopg [10,22] k1 (fun kq v10 v22 w'=>∃ (x10_2 : List Int) (x22_2 : Int),v22 = .int .i64 x22_2∧Aside0 (spec_l2Part.l1 kq l2 (rd l1 x16_1) x10_2 l1 (l1.length : Int) x16_1 l2 (l2.length : Int) x22_2 l0_0 x175000_1=some r)∧Aside0 (kq≤k1)∧Aside0 (Kd.R (Kd.int .u8) 5 w' w.heap.size (fun _=>True) v10 x10_2)∧Aside0 (Kd.S (Kd.slice 5 (Kd.int .u8)) 57 w' w.heap.size (fun k_=>some k_ ≠ (v10 : Value).ownBlock) u175000 x175000_1)∧Aside0 (w'.heap[gb172]? = some (.cells #[(.slice A0_0 l0_0.length c0_0)] 43 (0,0)))∧Aside0 (w'.heap[gb173]? = some (.cells #[(.slice none 0 0)] 43 (0,0)))∧Aside0 (w'.heap[gb174]? = some (.cells #[u175000] 43 (0,0)))∧Aside0 (Below w.heap.size w w'))
      case atStart=>exact ⟨(([] : List Int)),(0),(by first|rfl|(simp;done)|(simp [*];done)),H',⟨Nat.le_refl _⟩,⟨by first|exact Kd.R_nil _ _ _ _ _|exact Kd.N_nil _ _ _ _ _|exact Kd.V_nil _ _ _ _ _|exact Kd.Q_nil _ _ _ _ _|exact Kd.S_nil _ _ _ _ _⟩,⟨by (with_reducible repeat (first|apply Kd.S_alloc|apply Kd.S_drewN|apply Kd.S_drew));exact Kd.S_mono HO_175000.out (fun _ hk=>(by simp [Value.ownBlock]))⟩,⟨by (with_reducible repeat (first|refine qn ?_ _|refine qd ?_|refine qa ?_ _));exact BK172.out⟩,⟨by (with_reducible repeat (first|refine qn ?_ _|refine qd ?_|refine qa ?_ _));exact BK173.out⟩,⟨by (with_reducible repeat (first|refine qn ?_ _|refine qd ?_|refine qa ?_ _));exact BK174.out⟩,⟨by repeat (first|(with_reducible first|exact HB.out|apply pa|apply pb|apply pd|refine pt ?_ GE172.out|refine pt ?_ GE173.out|refine pt ?_ GE174.out)|exact HB.out)⟩⟩
      case round =>
       clear H'
       try clear c1
       try clear p1
       try clear q1
       try clear hx1
       try clear c2
       try clear p2
       try clear c7
       try clear c8
       try clear c9
       try clear c10
       try clear c10b0
       try clear c11
       try clear c11b0
       try clear c12
       try clear c12b0
       try clear hcz9_0
       try clear hfz9_0
       try clear hx175_0
       try clear p175
       try clear p2
       try clear q175
       obtain ⟨x10_2,x22_2,rfl,HA,HK2,HO_10,HO_175000,BK172,BK173,BK174,HB⟩:=hrel
       cases gk with
       | zero=>exact absurd HA.out (by simp [spec_l2Part.l1])
       | succ k2 =>
        have H:=HA.out
        clear HA
        simp only [spec_l2Part.l1] at H
        by_cases c13 : x22_2 < (l2.length : Int)
        ·rw [if_pos c13] at H
         have c13b0 : decide (x22_2 < (l2.length : Int))=true:=decide_eq_true c13
         clear c13
         by_cases c14 : 0≤x22_2
         ·rw [if_pos c14] at H
          have c14b0 : decide (0≤x22_2)=true:=decide_eq_true c14
          clear c14
          by_cases c15 : x22_2 < (l2.length : Int)
          ·rw [if_pos c15] at H
           have c15b0 : decide (x22_2 < (l2.length : Int))=true:=decide_eq_true c15
           clear c15
           by_cases c16 : 0≤(rd l1 x16_1)
           ·rw [if_pos c16] at H
            have c16b0 : decide (0≤(rd l1 x16_1))=true:=decide_eq_true c16
            clear c16
            by_cases c17 : (rd l1 x16_1) < (l0_0.length : Int)
            ·rw [if_pos c17] at H
             have c17b0 : decide ((rd l1 x16_1) < (l0_0.length : Int))=true:=decide_eq_true c17
             clear c17
             by_cases c18 : 0≤(rd l2 x22_2)
             ·rw [if_pos c18] at H
              have c18b0 : decide (0≤(rd l2 x22_2))=true:=decide_eq_true c18
              clear c18
              by_cases c19 : (rd l2 x22_2) < ((rd_L5 l0_0 (rd l1 x16_1)).length : Int)
              ·rw [if_pos c19] at H
               have c19b0 : decide ((rd l2 x22_2) < ((rd_L5 l0_0 (rd l1 x16_1)).length : Int))=true:=decide_eq_true c19
               clear c19
               by_cases c20 : x10_2.length < 140737488355328
               ·rw [if_pos c20] at H
                have LMc20:=am c20
                clear c20
                obtain ⟨y179,hy179⟩ : ∃ y_ : List Int,y_=(x10_2 ++ [rd (rd_L5 l0_0 (rd l1 x16_1)) (rd l2 x22_2)]):=⟨_,rfl⟩
                replace H : (spec_l2Part.l1 k2 l2 (rd l1 x16_1) y179 l1 (l1.length : Int) x16_1 l2 (l2.length : Int) (wrap64 (x22_2+1)) l0_0 x175000_1)=some r:=by first|(rw [hy179];with_reducible exact H)|(have H2_:=(Option.bind_some _ _).symm.trans H;rw [hy179];with_reducible exact H2_)|(have H2_:=(Option.bind_some _ _).symm.trans H;with_reducible exact H2_)|with_reducible exact H|(rw [hy179];exact H)|exact H
                have Ny179:=am hy179
                clear hy179
                have H':=am H
                clear H
                have p176 : 0≤(x22_2 : Int):=of_decide_eq_true (by first|(with_reducible assumption)|assumption)
                have q176 : x22_2 < (l2.length : Int):=of_decide_eq_true (by first|(with_reducible assumption)|assumption)
                obtain ⟨ad176,e176,hx176_0⟩:=Kd.at_int HR2.out x22_2 p176 q176
                cases e176
                replace hx176_0:=(HB.out.cell (World.block_lt_of_cell? w _ hx176_0)).trans hx176_0
                replace p176:=eq_true p176
                replace q176:=eq_true q176
                have hnb21:=NB172_173.out
                have hnc21:=NB173_172.out
                have hnb22:=NB172_174.out
                have hnc22:=NB174_172.out
                have hcz23_0 : wr.cell? ⟨gb172,0,none⟩=some (.slice A0_0 l0_0.length c0_0):=(blk_cell BK172.out 0).trans rfl
                have hfz23_0:=blk_frozen BK172.out 0
                have p177 : 0≤((rd l1 x16_1) : Int):=of_decide_eq_true (by first|(with_reducible assumption)|assumption)
                have q177 : (rd l1 x16_1) < (l0_0.length : Int):=of_decide_eq_true (by first|(with_reducible assumption)|assumption)
                obtain ⟨ad177,A177_0,c177_0,e177,hx177_0,hl177_0,hi177_0⟩:=at_L5 HR0_0.out (rd l1 x16_1) p177 q177
                cases e177
                replace hx177_0:=(HB.out.cell (World.block_lt_of_cell? w _ hx177_0)).trans hx177_0
                have HR177_0:=am hi177_0
                have HC177_0:=am hl177_0
                clear hi177_0 hl177_0
                replace p177:=eq_true p177
                replace q177:=eq_true q177
                have p178 : 0≤((rd l2 x22_2) : Int):=of_decide_eq_true (by first|(with_reducible assumption)|assumption)
                have q178 : (rd l2 x22_2) < ((rd_L5 l0_0 (rd l1 x16_1)).length : Int):=of_decide_eq_true (by first|(with_reducible assumption)|assumption)
                obtain ⟨ad178,e178,hx178_0⟩:=Kd.at_int HR177_0.out (rd l2 x22_2) p178 q178
                cases e178
                replace hx178_0:=(HB.out.cell (World.block_lt_of_cell? w _ hx178_0)).trans hx178_0
                replace p178:=eq_true p178
                replace q178:=eq_true q178
                go_wp2_with (first|((with_reducible refine gate_builtin (b:=.append) (xs:=#[.tmp 26, .tmp 35]) rfl ?_);at_builtin;refine Kd.R_append (Kd.int .u8) (w0:=w) w.heap.size rfl (.tmp 26) (.tmp 35) 57 5 (.int .u8 0) 1 rfl Try.underlying57 info5 rfl (by decide) (by omega) u10 x10_2 (rd (rd_L5 l0_0 (rd l1 x16_1)) (rd l2 x22_2)) [.int .u8 (rd (rd_L5 l0_0 (rd l1 x16_1)) (rd l2 x22_2))] (fun _=>True) (fun _=>False) rfl rfl ?aP (fun _ hk=>hk.elim) ?aF ?aO ?aB ?aS ?aL ?_;(case aP=>exact rfl);(case aB=>exact (by repeat (first|(with_reducible first|exact HB.out|apply pa|apply pb|apply pd|refine pt ?_ GE172.out|refine pt ?_ GE173.out|refine pt ?_ GE174.out)|exact HB.out)));(case aF=>exact (fun _ _=>trivial));(case aO=>exact (by (with_reducible repeat (first|apply Kd.R_alloc|apply Kd.R_drewN|apply Kd.R_drew));exact HO_10.out));(case aS=>exact (pz (by repeat (first|(with_reducible first|exact HB.out|apply pa|apply pb|apply pd|refine pt ?_ GE172.out|refine pt ?_ GE173.out|refine pt ?_ GE174.out)|exact HB.out))));(case aL=>have:=LMc20.out;omega);intro v180 w24 ho hb hg hat;rw [← Ny179.out] at ho;have n0_:=am (Kd.S_after (ok:=(fun _=>True)) (by (with_reducible repeat (first|apply Kd.S_alloc|apply Kd.S_drewN|apply Kd.S_drew));exact Kd.S_mono HO_175000.out (fun _ hk=>⟨trivial,hk⟩)) hg hat);have n1_:=am (blk_grown (g:=gb172) (o:=.cells #[.slice (some ad177) l0_0.length c0_0] 43 (0,0)) (by (with_reducible repeat (first|refine qn ?_ _|refine qd ?_|refine qa ?_ _));exact BK172.out) hg (Kd.R_ne HO_10.out BK172.out (by decide)));have n2_:=am (blk_grown (g:=gb173) (o:=.cells #[.slice none 0 0] 43 (0,0)) (by (with_reducible repeat (first|refine qn ?_ _|refine qd ?_|refine qa ?_ _));exact BK173.out) hg (Kd.R_ne HO_10.out BK173.out (by decide)));have n3_:=am (blk_grown (g:=gb174) (o:=.cells #[u175000] 43 (0,0)) (by (with_reducible repeat (first|refine qn ?_ _|refine qd ?_|refine qa ?_ _));exact BK174.out) hg (Kd.R_ne HO_10.out BK174.out (by decide)));have n4_:=am (hb);have n5_:=am (ho);clear HO_175000;clear BK172;clear BK173;clear BK174;clear HB;clear HO_10;have HO_175000:=n0_;have BK172:=n1_;have BK173:=n2_;have BK174:=n3_;have HB:=n4_;have HO181:=n5_;clear n0_ n1_ n2_ n3_ n4_ n5_;clear ho hb hg hat))
                go_roundg k2
                case measure=>have:=HK1.out;have:=HK2.out;omega
                case rel=>exact ⟨(y179),(wrap64 (x22_2+1)),(by first|rfl|(simp;done)|(simp [*];done)),H',⟨by have:=HK1.out;have:=HK2.out;omega⟩,⟨by (with_reducible repeat (first|apply Kd.R_alloc|apply Kd.R_drewN|apply Kd.R_drew));exact HO181.out⟩,⟨by (with_reducible repeat (first|apply Kd.S_alloc|apply Kd.S_drewN|apply Kd.S_drew));exact Kd.S_mono HO_175000.out (fun _ hk=>hk.2)⟩,⟨by (with_reducible repeat (first|refine qn ?_ _|refine qd ?_|refine qa ?_ _));exact BK172.out⟩,⟨by (with_reducible repeat (first|refine qn ?_ _|refine qd ?_|refine qa ?_ _));exact BK173.out⟩,⟨by (with_reducible repeat (first|refine qn ?_ _|refine qd ?_|refine qa ?_ _));exact BK174.out⟩,⟨by repeat (first|(with_reducible first|exact HB.out|apply pa|apply pb|apply pd|refine pt ?_ GE172.out|refine pt ?_ GE173.out|refine pt ?_ GE174.out)|exact HB.out)⟩⟩
               ·rw [if_neg c20] at H
                exact absurd H (by simp)
              ·rw [if_neg c19] at H
               exact absurd H (by simp)
             ·rw [if_neg c18] at H
              exact absurd H (by simp)
            ·rw [if_neg c17] at H
             exact absurd H (by simp)
           ·rw [if_neg c16] at H
            exact absurd H (by simp)
          ·rw [if_neg c15] at H
           exact absurd H (by simp)
         ·rw [if_neg c14] at H
          exact absurd H (by simp)
        ·rw [if_neg c13] at H
         have c13b0 : decide (x22_2 < (l2.length : Int))=false:=decide_eq_false c13
         clear c13
         by_cases c25 : x175000_1.length < 5864062014805
         ·rw [if_pos c25] at H
          have LMc25:=am c25
          clear c25
          obtain ⟨y182,hy182⟩ : ∃ y_ : List (List Int),y_=(x175000_1 ++ [x10_2]):=⟨_,rfl⟩
          replace H : (spec_l2Part.l0 k2 l2 l1 (l1.length : Int) (wrap64 (x16_1+1)) l0_0 y182)=some r:=by first|(rw [hy182];with_reducible exact H)|(have H2_:=(Option.bind_some _ _).symm.trans H;rw [hy182];with_reducible exact H2_)|(have H2_:=(Option.bind_some _ _).symm.trans H;with_reducible exact H2_)|with_reducible exact H|(rw [hy182];exact H)|exact H
          have Ny182:=am hy182
          clear hy182
          have H':=am H
          clear H
          have hnb26:=NB174_172.out
          have hnc26:=NB172_174.out
          have hnb27:=NB174_173.out
          have hnc27:=NB173_174.out
          have hcz28_0 : wr.cell? ⟨gb174,0,none⟩=some (u175000):=(blk_cell BK174.out 0).trans rfl
          have hfz28_0:=blk_frozen BK174.out 0
          obtain ⟨Ao30,co30,eo30⟩:=Kd.R_slice HO_10.out
          subst eo30
          go_wp2_with (first|((with_reducible refine gate_builtin (b:=.append) (xs:=#[.tmp 39, .tmp 41]) rfl ?_);at_builtin;refine Kd.S_append (Kd.slice 5 (Kd.int .u8)) (w0:=w) w.heap.size rfl (.tmp 39) (.tmp 41) 37 57 (.slice none 0 0) 24 rfl Try.underlying37 info57 rfl (by decide) (by omega) u175000 x175000_1 x10_2 [.slice Ao30 x10_2.length co30] (fun _=>True) (fun k_=>some k_=(.slice Ao30 x10_2.length co30 : Value).ownBlock) rfl rfl ?aP (fun k_ hk_=>((Kd.R_mono (ok':=fun k_=>((fun _=>True)) k_∧some k_ ≠ (u175000 : Value).ownBlock) (Kd.R_apart' (HO_10.out) (Kd.S_typed HO_175000.out) (by decide)) (fun k_ hk=>⟨trivial,hk.2⟩))).1 k_ hk_.symm) ?aF ?aO ?aB ?aS ?aL ?_;(case aP=>exact Kd.M_row (Kd.R_mono (Kd.R_tight rfl (Kd.R_mono (ok':=fun k_=>((fun _=>True)) k_∧some k_ ≠ (u175000 : Value).ownBlock) (Kd.R_apart' (HO_10.out) (Kd.S_typed HO_175000.out) (by decide)) (fun k_ hk=>⟨trivial,hk.2⟩))) (fun _ h_=>h_)));(case aB=>exact (by repeat (first|(with_reducible first|exact HB.out|apply pa|apply pb|apply pd|refine pt ?_ GE172.out|refine pt ?_ GE173.out|refine pt ?_ GE174.out)|exact HB.out)));(case aF=>exact (fun _ _=>trivial));(case aO=>exact (by (with_reducible repeat (first|apply Kd.S_alloc|apply Kd.S_drewN|apply Kd.S_drew));exact Kd.S_mono HO_175000.out (fun k_ hk=>⟨trivial,fun e_=>hk e_⟩)));(case aS=>exact (pz (by repeat (first|(with_reducible first|exact HB.out|apply pa|apply pb|apply pd|refine pt ?_ GE172.out|refine pt ?_ GE173.out|refine pt ?_ GE174.out)|exact HB.out))));(case aL=>have:=LMc25.out;omega);intro v183 w29 ho hb hg hat;rw [← Ny182.out] at ho;have n0_:=am (blk_grown (g:=gb172) (o:=.cells #[.slice A0_0 l0_0.length c0_0] 43 (0,0)) (by (with_reducible repeat (first|refine qn ?_ _|refine qd ?_|refine qa ?_ _));exact BK172.out) hg (Kd.S_ne HO_175000.out BK172.out (by decide)));have n1_:=am (blk_grown (g:=gb173) (o:=.cells #[.slice none 0 0] 43 (0,0)) (by (with_reducible repeat (first|refine qn ?_ _|refine qd ?_|refine qa ?_ _));exact BK173.out) hg (Kd.S_ne HO_175000.out BK173.out (by decide)));have n2_:=am (blk_grown (g:=gb174) (o:=.cells #[u175000] 43 (0,0)) (by (with_reducible repeat (first|refine qn ?_ _|refine qd ?_|refine qa ?_ _));exact BK174.out) hg (Kd.S_ne HO_175000.out BK174.out (by decide)));have n3_:=am (hb);have n4_:=am (ho);clear BK172;clear BK173;clear BK174;clear HB;clear HO_175000;clear HO_10;have BK172:=n0_;have BK173:=n1_;have BK174:=n2_;have HB:=n3_;have HO184:=n4_;clear n0_ n1_ n2_ n3_ n4_;clear ho hb hg hat;obtain ⟨Ao31,co31,eo31⟩:=Kd.S_slice HO184.out;subst eo31;have hcz32_0 : w29.cell? ⟨gb174,0,none⟩=some (u175000):=(blk_cell BK174.out 0).trans rfl;have hfz32_0:=blk_frozen BK174.out 0))
          go_roundg k2
          case measure=>have:=HK1.out;have:=HK2.out;omega
          case rel=>exact ⟨(wrap64 (x16_1+1)),(y182),(.slice Ao31 y182.length co31),(by first|rfl|(simp;done)|(simp [*];done)),H',⟨by have:=HK1.out;have:=HK2.out;omega⟩,⟨by (with_reducible repeat (first|apply Kd.S_alloc|apply Kd.S_drewN|apply Kd.S_drew));exact Kd.S_mono (Kd.S_far (p:=⟨gb174,0,none⟩) (Kd.S_types HO184.out BK174.out (by decide)) (fun _ hk=>hk.2) (.slice Ao31 y182.length co31)) (fun _ hk=>trivial)⟩,⟨by (with_reducible repeat (first|refine qn ?_ _|refine qd ?_|refine qa ?_ _));refine blk_far ?_ NB172_174.out _;(with_reducible repeat (first|refine qn ?_ _|refine qd ?_|refine qa ?_ _));exact BK172.out⟩,⟨by (with_reducible repeat (first|refine qn ?_ _|refine qd ?_|refine qa ?_ _));refine blk_far ?_ NB173_174.out _;(with_reducible repeat (first|refine qn ?_ _|refine qd ?_|refine qa ?_ _));exact BK173.out⟩,⟨by (with_reducible repeat (first|refine qn ?_ _|refine qd ?_|refine qa ?_ _));refine blk_put (cs:=#[u175000]) ?_ 0 _ rfl;(with_reducible repeat (first|refine qn ?_ _|refine qd ?_|refine qa ?_ _));exact BK174.out⟩,⟨by repeat (first|(with_reducible first|exact HB.out|apply pa|apply pb|apply pd|refine pt ?_ GE172.out|refine pt ?_ GE173.out|refine pt ?_ GE174.out)|exact HB.out)⟩⟩
         ·rw [if_neg c25] at H
          exact absurd H (by simp)
     ·rw [if_neg c12] at H
      exact absurd H (by simp)
    ·rw [if_neg c11] at H
     exact absurd H (by simp)
   ·rw [if_neg c10] at H
    have c10b0 : decide (x16_1 < (l1.length : Int))=false:=decide_eq_false c10
    clear c10
    obtain rfl:=Option.some.inj H
    have hnb33:=NB174_172.out
    have hnc33:=NB172_174.out
    have hnb34:=NB174_173.out
    have hnc34:=NB173_174.out
    have hcz35_0 : wr.cell? ⟨gb174,0,none⟩=some (u175000):=(blk_cell BK174.out 0).trans rfl
    have hfz35_0:=blk_frozen BK174.out 0
    obtain ⟨Ao36,co36,eo36⟩:=Kd.S_slice HO_175000.out
    subst eo36
    have hnb37:=NB173_172.out
    have hnc37:=NB172_173.out
    have hcz38_0 : wr.cell? ⟨gb173,0,none⟩=some (.slice none 0 0):=(blk_cell BK173.out 0).trans rfl
    have hfz38_0:=blk_frozen BK173.out 0
    go_wp2
    refine bodyPost_ret (results_cell_row rfl _ _ gb173 43 #[.slice Ao36 x175000_1.length co36] (0,0) _ rfl (by (with_reducible repeat (first|refine qn ?_ _|refine qd ?_|refine qa ?_ _));refine blk_put (cs:=#[.slice none 0 0]) ?_ 0 _ rfl;(with_reducible repeat (first|refine qn ?_ _|refine qd ?_|refine qa ?_ _));exact BK173.out) Try.underlying43 rfl (by kernel_rfl)) rfl ?_
    exact ⟨_,by first|rfl|(simp [errW_none,errW_some] <;> rfl)|(simp [*,errW_none,errW_some] <;> rfl),by (with_reducible repeat (first|apply Kd.S_alloc|apply Kd.S_drewN|apply Kd.S_drew));exact Kd.S_mono (Kd.S_far (p:=⟨gb173,0,none⟩) (Kd.S_types HO_175000.out BK173.out (by decide)) (fun _ hk=>hk.2) (.slice Ao36 x175000_1.length co36)) (fun _ hk=>trivial),by repeat (first|(with_reducible first|exact HB.out|apply pa|apply pb|apply pd|refine pt ?_ GE172.out|refine pt ?_ GE173.out|refine pt ?_ GE174.out)|exact HB.out)⟩

def spec_l3All.l0 : Nat→Int→List Int→Int→Option (List Int)
 | 0,_,_,_=>none
 | k+1,x0,x3,x4=>if x4 < x0 then (if x3.length < 17592186044416 then (spec_l3All.l0 k x0 (x3 ++ [x4]) (wrap64 (x4+1))) else (none)) else (some x3)
def spec_l3All.f (k : Nat) (a0 : Int) : Option (List Int):=spec_l3All.l0 k a0 ([] : List Int) 0
theorem spec_l3All.mono_l : ∀ k,(∀ y0 y1 y2,LeO (spec_l3All.l0 k y0 y1 y2) (spec_l3All.l0 (k+1) y0 y1 y2))
 | 0=>fun _ _ _ r h=>by simp [spec_l3All.l0] at h
 | k+1=>by
  have ih0:=spec_l3All.mono_l k
  ·intro y0 y1 y2
   unfold spec_l3All.l0
   repeat' first
   | (with_reducible exact ih0 _ _ _)
   | (with_reducible exact LeO.refl _)
   | (with_reducible exact LeO.none _)
   | (with_reducible refine LeO.ite ?_ ?_)
   | (with_reducible refine LeO.bind ?_ (fun _=>?_))
   | exact ih0 _ _ _
   | exact LeO.none _
   | refine LeO.ite ?_ ?_
   | refine LeO.bind ?_ (fun _=>?_)
theorem spec_l3All.mono : ∀ a0 k,LeO (spec_l3All.f k a0) (spec_l3All.f (k+1) a0):=by
 intro a0 k
 have ih0:=spec_l3All.mono_l k
 unfold spec_l3All.f
 repeat' first
   | (with_reducible exact ih0 _ _ _)
   | (with_reducible exact LeO.refl _)
   | (with_reducible exact LeO.none _)
   | (with_reducible refine LeO.ite ?_ ?_)
   | (with_reducible refine LeO.bind ?_ (fun _=>?_))
   | exact ih0 _ _ _
   | exact LeO.none _
   | refine LeO.ite ?_ ?_
   | refine LeO.bind ?_ (fun _=>?_)
set_option maxHeartbeats 8000000 in
set_option maxRecDepth 100000 in
theorem spec_l3All.calls (k : Nat) (a0 : Int) (r : List Int) (w : World) (h : spec_l3All.f k a0=some r) :
  Calls Try.prog 93 #[.int .i64 a0] w fun e w'=>∃ v0_ : Value,e = .returned (v0_)∧Kd.R (Kd.int .i64) 3 w' w.heap.size (fun _=>True) v0_ r∧Below w.heap.size w w':=by
 have HB:=am (Below.refl w.heap.size w)
 have H : (spec_l3All.l0 k a0 ([] : List Int) 0)=some r:=h
 clear h
 have H':=am H
 clear H
 go_enter Try.func93,Try.ntmps93
 go_wp2
 go_loopg [3,4] k (fun kq v3 v4 w'=>∃ (x3_1 : List Int) (x4_1 : Int),v4 = .int .i64 x4_1∧Aside0 (spec_l3All.l0 kq a0 x3_1 x4_1=some r)∧Aside0 (kq≤k)∧Aside0 (Kd.R (Kd.int .i64) 3 w' w.heap.size (fun _=>True) v3 x3_1)∧Aside0 (Below w.heap.size w w'))
 case atStart=>exact ⟨(([] : List Int)),(0),(by first|rfl|(simp;done)|(simp [*];done)),H',⟨Nat.le_refl _⟩,⟨by first|exact Kd.R_nil _ _ _ _ _|exact Kd.N_nil _ _ _ _ _|exact Kd.V_nil _ _ _ _ _|exact Kd.Q_nil _ _ _ _ _|exact Kd.S_nil _ _ _ _ _⟩,⟨by repeat (first|(with_reducible first|exact HB.out|apply pa|apply pb|apply pd)|exact HB.out)⟩⟩
 case round =>
  clear H'
  obtain ⟨x3_1,x4_1,rfl,HA,HK1,HO_3,HB⟩:=hrel
  cases gk with
  | zero=>exact absurd HA.out (by simp [spec_l3All.l0])
  | succ k1 =>
   have H:=HA.out
   clear HA
   simp only [spec_l3All.l0] at H
   by_cases c2 : x4_1 < a0
   ·rw [if_pos c2] at H
    have c2b0 : decide (x4_1 < a0)=true:=decide_eq_true c2
    clear c2
    by_cases c3 : x3_1.length < 17592186044416
    ·rw [if_pos c3] at H
     have LMc3:=am c3
     clear c3
     obtain ⟨y185,hy185⟩ : ∃ y_ : List Int,y_=(x3_1 ++ [x4_1]):=⟨_,rfl⟩
     replace H : (spec_l3All.l0 k1 a0 y185 (wrap64 (x4_1+1)))=some r:=by first|(rw [hy185];with_reducible exact H)|(have H2_:=(Option.bind_some _ _).symm.trans H;rw [hy185];with_reducible exact H2_)|(have H2_:=(Option.bind_some _ _).symm.trans H;with_reducible exact H2_)|with_reducible exact H|(rw [hy185];exact H)|exact H
     have Ny185:=am hy185
     clear hy185
     have H':=am H
     clear H
     go_wp2_with (first|((with_reducible refine gate_builtin (b:=.append) (xs:=#[.tmp 10, .tmp 12]) rfl ?_);at_builtin;refine Kd.R_append (Kd.int .i64) (w0:=w) w.heap.size rfl (.tmp 10) (.tmp 12) 25 3 (.int .i64 0) 8 rfl Try.underlying25 info3 rfl (by decide) (by omega) u3 x3_1 x4_1 [.int .i64 x4_1] (fun _=>True) (fun _=>False) rfl rfl ?aP (fun _ hk=>hk.elim) ?aF ?aO ?aB ?aS ?aL ?_;(case aP=>exact rfl);(case aB=>exact (by repeat (first|(with_reducible first|exact HB.out|apply pa|apply pb|apply pd)|exact HB.out)));(case aF=>exact (fun _ _=>trivial));(case aO=>exact (by (with_reducible repeat (first|apply Kd.R_alloc|apply Kd.R_drewN|apply Kd.R_drew));exact HO_3.out));(case aS=>exact (pz (by repeat (first|(with_reducible first|exact HB.out|apply pa|apply pb|apply pd)|exact HB.out))));(case aL=>have:=LMc3.out;omega);intro v186 w4 ho hb hg hat;rw [← Ny185.out] at ho;have n0_:=am (hb);have n1_:=am (ho);clear HB;clear HO_3;have HB:=n0_;have HO187:=n1_;clear n0_ n1_;clear ho hb hg hat))
     go_roundg k1
     case measure=>have:=HK1.out;omega
     case rel=>exact ⟨(y185),(wrap64 (x4_1+1)),(by first|rfl|(simp;done)|(simp [*];done)),H',⟨by have:=HK1.out;omega⟩,⟨by (with_reducible repeat (first|apply Kd.R_alloc|apply Kd.R_drewN|apply Kd.R_drew));exact HO187.out⟩,⟨by repeat (first|(with_reducible first|exact HB.out|apply pa|apply pb|apply pd)|exact HB.out)⟩⟩
    ·rw [if_neg c3] at H
     exact absurd H (by simp)
   ·rw [if_neg c2] at H
    have c2b0 : decide (x4_1 < a0)=false:=decide_eq_false c2
    clear c2
    obtain rfl:=Option.some.inj H
    go_wp2
    go_ret
    exact ⟨_,by first|rfl|(simp [errW_none,errW_some] <;> rfl)|(simp [*,errW_none,errW_some] <;> rfl),by (with_reducible repeat (first|apply Kd.R_alloc|apply Kd.R_drewN|apply Kd.R_drew));exact HO_3.out,by repeat (first|(with_reducible first|exact HB.out|apply pa|apply pb|apply pd)|exact HB.out)⟩

mutual
def spec_l2Cauchy.l0 : Nat→Int→Int→Int→List (List Int)→Option ((List (List Int)))
 | 0,_,_,_,_=>none
 | k+1,x1,x13,x14,x193000=>if x14 < x13 then (if 0≤x14 then (if x14 < (x193000.length : Int) then (spec_l2Cauchy.l1 k x1 x14 x13 x14 ((rd_L5 x193000 x14).length : Int) 0 x193000) else (none)) else (none)) else (some x193000)
def spec_l2Cauchy.l1 : Nat→Int→Int→Int→Int→Int→Int→List (List Int)→Option ((List (List Int)))
 | 0,_,_,_,_,_,_,_=>none
 | k+1,x1,x6,x13,x14,x22,x23,x193000=>if x23 < x22 then (if 0≤x6 then (if x6 < (x193000.length : Int) then ((spec_l1Inverse.f k ((Go.bits .xor .i64 (wrap64 (x1+x6)) x23) % 256)).bind fun t195=>(if 0≤x23 then (if x23 < ((rd_L5 x193000 x6).length : Int) then (spec_l2Cauchy.l1 k x1 x6 x13 x14 x22 (wrap64 (x23+1)) (x193000.set (x6 : Int).toNat ((rd_L5 x193000 x6).set (x23 : Int).toNat t195))) else (none)) else (none))) else (none)) else (none)) else (spec_l2Cauchy.l0 k x1 x13 (wrap64 (x14+1)) x193000)
end
def spec_l2Cauchy.f (k : Nat) (a0 : Int) (a1 : Int) : Option ((List (List Int))):=(spec_l2Blank.f k a0 a1).bind fun t189=>(spec_l2Cauchy.l0 k a1 (t189.length : Int) 0 t189)
theorem spec_l2Cauchy.mono_l : ∀ k,(∀ y0 y1 y2 y3,LeO (spec_l2Cauchy.l0 k y0 y1 y2 y3) (spec_l2Cauchy.l0 (k+1) y0 y1 y2 y3))∧(∀ y0 y1 y2 y3 y4 y5 y6,LeO (spec_l2Cauchy.l1 k y0 y1 y2 y3 y4 y5 y6) (spec_l2Cauchy.l1 (k+1) y0 y1 y2 y3 y4 y5 y6))
 | 0=>⟨fun _ _ _ _ r h=>by simp [spec_l2Cauchy.l0] at h,fun _ _ _ _ _ _ _ r h=>by simp [spec_l2Cauchy.l1] at h⟩
 | k+1=>by
  obtain ⟨ih0,ih1⟩:=spec_l2Cauchy.mono_l k
  refine ⟨?_,?_⟩
  ·intro y0 y1 y2 y3
   unfold spec_l2Cauchy.l0
   repeat' first
   | (with_reducible exact ih0 _ _ _ _)
   | (with_reducible exact ih1 _ _ _ _ _ _ _)
   | (with_reducible exact spec_l1Inverse.mono _ _)
   | (with_reducible exact spec_l2Blank.mono _ _ _)
   | (with_reducible exact LeO.refl _)
   | (with_reducible exact LeO.none _)
   | (with_reducible refine LeO.ite ?_ ?_)
   | (with_reducible refine LeO.bind ?_ (fun _=>?_))
   | exact ih0 _ _ _ _
   | exact ih1 _ _ _ _ _ _ _
   | exact spec_l1Inverse.mono _ _
   | exact spec_l2Blank.mono _ _ _
   | exact LeO.none _
   | refine LeO.ite ?_ ?_
   | refine LeO.bind ?_ (fun _=>?_)
  ·intro y0 y1 y2 y3 y4 y5 y6
   unfold spec_l2Cauchy.l1
   repeat' first
   | (with_reducible exact ih0 _ _ _ _)
   | (with_reducible exact ih1 _ _ _ _ _ _ _)
   | (with_reducible exact spec_l1Inverse.mono _ _)
   | (with_reducible exact spec_l2Blank.mono _ _ _)
   | (with_reducible exact LeO.refl _)
   | (with_reducible exact LeO.none _)
   | (with_reducible refine LeO.ite ?_ ?_)
   | (with_reducible refine LeO.bind ?_ (fun _=>?_))
   | exact ih0 _ _ _ _
   | exact ih1 _ _ _ _ _ _ _
   | exact spec_l1Inverse.mono _ _
   | exact spec_l2Blank.mono _ _ _
   | exact LeO.none _
   | refine LeO.ite ?_ ?_
   | refine LeO.bind ?_ (fun _=>?_)
theorem spec_l2Cauchy.mono : ∀ a0 a1 k,LeO (spec_l2Cauchy.f k a0 a1) (spec_l2Cauchy.f (k+1) a0 a1):=by
 intro a0 a1 k
 obtain ⟨ih0,ih1⟩:=spec_l2Cauchy.mono_l k
 unfold spec_l2Cauchy.f
 repeat' first
   | (with_reducible exact ih0 _ _ _ _)
   | (with_reducible exact ih1 _ _ _ _ _ _ _)
   | (with_reducible exact spec_l1Inverse.mono _ _)
   | (with_reducible exact spec_l2Blank.mono _ _ _)
   | (with_reducible exact LeO.refl _)
   | (with_reducible exact LeO.none _)
   | (with_reducible refine LeO.ite ?_ ?_)
   | (with_reducible refine LeO.bind ?_ (fun _=>?_))
   | exact ih0 _ _ _ _
   | exact ih1 _ _ _ _ _ _ _
   | exact spec_l1Inverse.mono _ _
   | exact spec_l2Blank.mono _ _ _
   | exact LeO.none _
   | refine LeO.ite ?_ ?_
   | refine LeO.bind ?_ (fun _=>?_)
def spec_l2Cauchy.T8 : Bool × List (List Nat × List Nat):=(true,[([],[]),([0],[0]),([],[]),([1,2],[1,2]),([3],[3]),([],[]),([],[]),([],[]),([6,7],[6,7]),([],[]),([8,9],[8,9]),([10],[10]),([11],[11]),([4,5,0,1,2,3,4,5,6,7,8,9,10,11,12],[4,5]),([13,12,12,0,1,2,3,4,5,6,7,8,9,10,11,12],[12,13])])
def spec_l2Cauchy.B8 : List Nat:=[0,1,0,7,15,0,0,0,192,0,960,1984,4032,8191,16383]
theorem spec_l2Cauchy.tab8 : rtab .any (opsOf Try.f186 8)=spec_l2Cauchy.T8:=by kernel_rfl
theorem spec_l2Cauchy.bits8 : waitsOk spec_l2Cauchy.T8.2 spec_l2Cauchy.B8=true:=by kernel_rfl
set_option maxHeartbeats 8000000 in
set_option maxRecDepth 100000 in
theorem spec_l2Cauchy.calls (k : Nat) (a0 : Int) (a1 : Int) (r : List (List Int)) (w : World) (h : spec_l2Cauchy.f k a0 a1=some r) :
  Calls Try.prog 186 #[.int .i64 a0, .int .i64 a1] w fun e w'=>∃ v0_ : Value,e = .returned (.agg #[v0_])∧Kd.S (Kd.slice 5 (Kd.int .u8)) 57 w' w.heap.size (fun _=>True) v0_ r∧Below w.heap.size w w':=by
 have hu43:=Try.underlying43
 have HB:=am (Below.refl w.heap.size w)
 have H : ((spec_l2Blank.f k a0 a1).bind fun t189=>(spec_l2Cauchy.l0 k a1 (t189.length : Int) 0 t189))=some r:=h
 clear h
 replace H:=Option.bind_eq_some_iff.mp H
 obtain ⟨t189,A30,H⟩:=H
 replace H : (spec_l2Cauchy.l0 k a1 (t189.length : Int) 0 t189)=some r:=H
 have A3:=am A30
 clear A30
 have H':=am H
 clear H
 go_enter Try.func186,Try.ntmps186
 go_wp2_with (first|((with_reducible refine gate_dst (N:=4) rfl ?_);refine box_event ?hg (N:=4) ?hd (cs:=#[.slice none 0 0]) (t:=43) ?hr ?_;(case hd=>rfl);(case hg=>rfl);(case hr=>first|(go_simp;done)|(go_simp;rfl));intro gb188 hg w4 hbox hb;have n0_:=am (pu (by repeat (first|(with_reducible first|exact HB.out|apply pa|apply pb|apply pd)|exact HB.out)) hb);have n1_:=am (hbox);have n2_:=am ((by rw [hg];exact (pz (by repeat (first|(with_reducible first|exact HB.out|apply pa|apply pb|apply pd)|exact HB.out))) : w.heap.size≤gb188));have n3_:=am ((by rw [hg];exact (pz (by repeat (first|(with_reducible first|exact HB.out|apply pa|apply pb|apply pd)|exact HB.out))) : w.heap.size≤gb188));clear HB;have HB:=n0_;have BK188:=n1_;have GW188:=n2_;have GE188:=n3_;clear n0_ n1_ n2_ n3_;clear hb hbox hg)|((with_reducible refine gate_callee (f:=172) rfl ?_);refine goesL_ (some 10) rfl rfl Try.func172 (by kernel_rfl) rfl #[.int .i64 a0, .int .i64 a1] rfl (by (try simp only [List.map_toArray,List.map_cons,List.map_nil]);first|done|rfl|(simp only [List.length_drop,List.length_take];rfl)) ?_;(with_reducible refine (spec_l2Blank.calls k a0 a1 t189 _ A3.out).mono ?_);rintro e w5 ⟨v190,rfl,ho0,hb⟩;refine ⟨_,rfl,?_⟩;have n0_:=am (Kd.S_lower ho0 (pz (by repeat (first|(with_reducible first|exact HB.out|apply pa|apply pb|apply pd|refine pt ?_ GE188.out)|exact HB.out))));have n1_:=am (qb (g:=gb188) (o:=.cells #[.slice none 0 0] 43 (0,0)) (by (with_reducible repeat (first|refine qn ?_ _|refine qd ?_|refine qa ?_ _));exact BK188.out) hb);have n2_:=am (pu (by repeat (first|(with_reducible first|exact HB.out|apply pa|apply pb|apply pd|refine pt ?_ GE188.out)|exact HB.out)) hb);clear BK188;clear HB;have HO191:=n0_;have BK188:=n1_;have HB:=n2_;clear n0_ n1_ n2_;(try clear hb);(try clear hb2);(try clear hk);(try clear hi);(try clear ho0))|((with_reducible refine gate_dst (N:=5) rfl ?_);refine box_event ?hg (N:=5) ?hd (cs:=#[.slice none 0 0]) (t:=43) ?hr ?_;(case hd=>rfl);(case hg=>rfl);(case hr=>first|(go_simp;done)|(go_simp;rfl));intro gb192 hg w6 hbox hb;have n0_:=am (Kd.S_below (by (with_reducible repeat (first|apply Kd.S_alloc|apply Kd.S_drewN|apply Kd.S_drew));exact HO191.out) hb);have n1_:=am (qb (g:=gb188) (o:=.cells #[.slice none 0 0] 43 (0,0)) (by (with_reducible repeat (first|refine qn ?_ _|refine qd ?_|refine qa ?_ _));exact BK188.out) hb);have n2_:=am (pu (by repeat (first|(with_reducible first|exact HB.out|apply pa|apply pb|apply pd|refine pt ?_ GE188.out)|exact HB.out)) hb);have n3_:=am (hbox);have n4_:=am ((by rw [hg];exact (pz (by repeat (first|(with_reducible first|exact HB.out|apply pa|apply pb|apply pd|refine pt ?_ GE188.out)|exact HB.out))) : w.heap.size≤gb192));have n5_:=am ((by rw [hg];exact (pz (by repeat (first|(with_reducible first|exact HB.out|apply pa|apply pb|apply pd|refine pt ?_ GE188.out)|exact HB.out))) : w.heap.size≤gb192));have n6_:=am ((by rw [hg];exact Nat.ne_of_lt (blk_lt (g:=gb188) (o:=.cells #[.slice none 0 0] 43 (0,0)) (by (with_reducible repeat (first|refine qn ?_ _|refine qd ?_|refine qa ?_ _));exact BK188.out)) : gb188 ≠ gb192));have n7_:=am ((by rw [hg];exact Nat.ne_of_gt (blk_lt (g:=gb188) (o:=.cells #[.slice none 0 0] 43 (0,0)) (by (with_reducible repeat (first|refine qn ?_ _|refine qd ?_|refine qa ?_ _));exact BK188.out)) : gb192 ≠ gb188));clear HO191;clear BK188;clear HB;have HO191:=n0_;have BK188:=n1_;have HB:=n2_;have BK192:=n3_;have GW192:=n4_;have GE192:=n5_;have NB188_192:=n6_;have NB192_188:=n7_;clear n0_ n1_ n2_ n3_ n4_ n5_ n6_ n7_;clear hb hbox hg;obtain ⟨Ao7,co7,eo7⟩:=Kd.S_slice HO191.out;subst eo7;have hnb8:=NB192_188.out;have hnc8:=NB188_192.out;have hcz9_0 : w6.cell? ⟨gb192,0,none⟩=some (.slice none 0 0):=(blk_cell BK192.out 0).trans rfl;have hfz9_0:=blk_frozen BK192.out 0))
 go_loopg [14] k (fun kq v14 w'=>∃ (x14_1 : Int) (x193000_1 : List (List Int)) (u193000 : Value),v14 = .int .i64 x14_1∧Aside0 (spec_l2Cauchy.l0 kq a1 (t189.length : Int) x14_1 x193000_1=some r)∧Aside0 (kq≤k)∧Aside0 (Kd.S (Kd.slice 5 (Kd.int .u8)) 57 w' w.heap.size (fun _=>True) u193000 x193000_1)∧Aside0 (w'.heap[gb188]? = some (.cells #[(.slice none 0 0)] 43 (0,0)))∧Aside0 (w'.heap[gb192]? = some (.cells #[u193000] 43 (0,0)))∧Aside0 (Below w.heap.size w w'))
 case atStart=>exact ⟨(0),(t189),(.slice Ao7 t189.length co7),(by first|rfl|(simp;done)|(simp [*];done)),H',⟨Nat.le_refl _⟩,⟨by (with_reducible repeat (first|apply Kd.S_alloc|apply Kd.S_drewN|apply Kd.S_drew));exact Kd.S_mono (Kd.S_far (p:=⟨gb192,0,none⟩) (Kd.S_types HO191.out BK192.out (by decide)) (fun _ hk=>hk.2) (.slice Ao7 t189.length co7)) (fun _ hk=>trivial)⟩,⟨by (with_reducible repeat (first|refine qn ?_ _|refine qd ?_|refine qa ?_ _));refine blk_far ?_ NB188_192.out _;(with_reducible repeat (first|refine qn ?_ _|refine qd ?_|refine qa ?_ _));exact BK188.out⟩,⟨by (with_reducible repeat (first|refine qn ?_ _|refine qd ?_|refine qa ?_ _));refine blk_put (cs:=#[.slice none 0 0]) ?_ 0 _ rfl;(with_reducible repeat (first|refine qn ?_ _|refine qd ?_|refine qa ?_ _));exact BK192.out⟩,⟨by repeat (first|(with_reducible first|exact HB.out|apply pa|apply pb|apply pd|refine pt ?_ GE188.out|refine pt ?_ GE192.out)|exact HB.out)⟩⟩
 case round =>
  clear H'
  try clear c1
  try clear p2
  try clear c8
  try clear hcz9_0
  try clear hfz9_0
  obtain ⟨x14_1,x193000_1,u193000,rfl,HA,HK1,HO_193000,BK188,BK192,HB⟩:=hrel
  cases gk with
  | zero=>exact absurd HA.out (by simp [spec_l2Cauchy.l0])
  | succ k1 =>
   have H:=HA.out
   clear HA
   simp only [spec_l2Cauchy.l0] at H
   by_cases c10 : x14_1 < (t189.length : Int)
   ·rw [if_pos c10] at H
    have c10b0 : decide (x14_1 < (t189.length : Int))=true:=decide_eq_true c10
    clear c10
    by_cases c11 : 0≤x14_1
    ·rw [if_pos c11] at H
     have c11b0 : decide (0≤x14_1)=true:=decide_eq_true c11
     clear c11
     by_cases c12 : x14_1 < (x193000_1.length : Int)
     ·rw [if_pos c12] at H
      have c12b0 : decide (x14_1 < (x193000_1.length : Int))=true:=decide_eq_true c12
      clear c12
      have H':=am H
      clear H
      have hnb13:=NB192_188.out
      have hnc13:=NB188_192.out
      have hcz14_0 : wr.cell? ⟨gb192,0,none⟩=some (u193000):=(blk_cell BK192.out 0).trans rfl
      have hfz14_0:=blk_frozen BK192.out 0
      obtain ⟨Ao15,co15,eo15⟩:=Kd.S_slice HO_193000.out
      subst eo15
      have p193 : 0≤(x14_1 : Int):=of_decide_eq_true (by first|(with_reducible assumption)|assumption)
      have q193 : x14_1 < (x193000_1.length : Int):=of_decide_eq_true (by first|(with_reducible assumption)|assumption)
      obtain ⟨ad193,A193_0,c193_0,e193,hx193_0,hl193_0,hi193_0⟩:=at_L5 (Kd.S_reads' HO_193000.out).2.2 x14_1 p193 q193
      cases e193
      obtain ⟨ce193,hce193,hMe193,hcc193⟩:=Kd.S_get HO_193000.out [] x14_1 p193 (by first|exact q193|exact of_decide_eq_true (by first|(with_reducible assumption)|assumption)|(have e_:=(Kd.S_reads' HO_193000.out).1;omega))
      obtain ⟨ve193_0,rfl,ge193_0⟩:=hMe193
      have hv193_0:=hcc193 0 _ rfl
      rw [Nat.add_zero,show ((Kd.slice 5 (Kd.int .u8))).sz=1 from rfl,Nat.mul_one] at hv193_0
      replace hv193_0:=Option.some.inj (hv193_0.symm.trans hx193_0)
      rw [hv193_0] at ge193_0
      have HL193_0:=am (show Kd.R (Kd.int .u8) 5 _ _ _ _ (rd_L5 x193000_1 x14_1) from ge193_0)
      clear hv193_0 ge193_0
      have HX193_0:=am hx193_0
      clear hcc193 hce193
      have HR193_0:=am hi193_0
      have HC193_0:=am hl193_0
      clear hi193_0 hl193_0
      replace p193:=eq_true p193
      replace q193:=eq_true q193
      go_wp2
      go_loopg [23] k1 (fun kq v23 w'=>∃ (x23_2 : Int) (x193000_2 : List (List Int)) (u193000 : Value),v23 = .int .i64 x23_2∧Aside0 (spec_l2Cauchy.l1 kq a1 x14_1 (t189.length : Int) x14_1 ((rd_L5 x193000_1 x14_1).length : Int) x23_2 x193000_2=some r)∧Aside0 (kq≤k1)∧Aside0 (Kd.S (Kd.slice 5 (Kd.int .u8)) 57 w' w.heap.size (fun _=>True) u193000 x193000_2)∧Aside0 (w'.heap[gb188]? = some (.cells #[(.slice none 0 0)] 43 (0,0)))∧Aside0 (w'.heap[gb192]? = some (.cells #[u193000] 43 (0,0)))∧Aside0 (Below w.heap.size w w'))
      case atStart=>exact ⟨(0),(x193000_1),(.slice (some ad193) x193000_1.length co15),(by first|rfl|(simp;done)|(simp [*];done)),H',⟨Nat.le_refl _⟩,⟨by (with_reducible repeat (first|apply Kd.S_alloc|apply Kd.S_drewN|apply Kd.S_drew));exact HO_193000.out⟩,⟨by (with_reducible repeat (first|refine qn ?_ _|refine qd ?_|refine qa ?_ _));exact BK188.out⟩,⟨by (with_reducible repeat (first|refine qn ?_ _|refine qd ?_|refine qa ?_ _));exact BK192.out⟩,⟨by repeat (first|(with_reducible first|exact HB.out|apply pa|apply pb|apply pd|refine pt ?_ GE188.out|refine pt ?_ GE192.out)|exact HB.out)⟩⟩
      case round =>
       clear H'
       try clear c1
       try clear p1
       try clear q1
       try clear hx1
       try clear p2
       try clear c8
       try clear c10
       try clear c10b0
       try clear c11
       try clear c11b0
       try clear c12
       try clear c12b0
       try clear c13
       try clear hcz14_0
       try clear hcz9_0
       try clear hfz14_0
       try clear hfz9_0
       try clear hx193_0
       try clear p193
       try clear p2
       try clear q193
       obtain ⟨x23_2,x193000_2,u193000,rfl,HA,HK2,HO_193000,BK188,BK192,HB⟩:=hrel
       cases gk with
       | zero=>exact absurd HA.out (by simp [spec_l2Cauchy.l1])
       | succ k2 =>
        have H:=HA.out
        clear HA
        simp only [spec_l2Cauchy.l1] at H
        by_cases c16 : x23_2 < ((rd_L5 x193000_1 x14_1).length : Int)
        ·rw [if_pos c16] at H
         have c16b0 : decide (x23_2 < ((rd_L5 x193000_1 x14_1).length : Int))=true:=decide_eq_true c16
         clear c16
         by_cases c17 : 0≤x14_1
         ·rw [if_pos c17] at H
          have c17b0 : decide (0≤x14_1)=true:=decide_eq_true c17
          clear c17
          by_cases c18 : x14_1 < (x193000_2.length : Int)
          ·rw [if_pos c18] at H
           have c18b0 : decide (x14_1 < (x193000_2.length : Int))=true:=decide_eq_true c18
           clear c18
           replace H:=Option.bind_eq_some_iff.mp H
           obtain ⟨t195,A190,H⟩:=H
           replace H : (if 0≤x23_2 then (if x23_2 < ((rd_L5 x193000_2 x14_1).length : Int) then (spec_l2Cauchy.l1 k2 a1 x14_1 (t189.length : Int) x14_1 ((rd_L5 x193000_1 x14_1).length : Int) (wrap64 (x23_2+1)) (x193000_2.set (x14_1 : Int).toNat ((rd_L5 x193000_2 x14_1).set (x23_2 : Int).toNat t195))) else (none)) else (none))=some r:=H
           have A19:=am A190
           clear A190
           by_cases c20 : 0≤x23_2
           ·rw [if_pos c20] at H
            have c20b0 : decide (0≤x23_2)=true:=decide_eq_true c20
            clear c20
            by_cases c21 : x23_2 < ((rd_L5 x193000_2 x14_1).length : Int)
            ·rw [if_pos c21] at H
             have c21b0 : decide (x23_2 < ((rd_L5 x193000_2 x14_1).length : Int))=true:=decide_eq_true c21
             clear c21
             obtain ⟨y196,hy196⟩ : ∃ y_ : List Int,y_=((rd_L5 x193000_2 x14_1).set (x23_2 : Int).toNat t195):=⟨_,rfl⟩
             replace H : (spec_l2Cauchy.l1 k2 a1 x14_1 (t189.length : Int) x14_1 ((rd_L5 x193000_1 x14_1).length : Int) (wrap64 (x23_2+1)) (x193000_2.set (x14_1 : Int).toNat y196))=some r:=by first|(rw [hy196];with_reducible exact H)|(have H2_:=(Option.bind_some _ _).symm.trans H;rw [hy196];with_reducible exact H2_)|(have H2_:=(Option.bind_some _ _).symm.trans H;with_reducible exact H2_)|with_reducible exact H|(rw [hy196];exact H)|exact H
             have Ny196:=am hy196
             clear hy196
             obtain ⟨y198,hy198⟩ : ∃ y_ : List (List Int),y_=(x193000_2.set (x14_1 : Int).toNat y196):=⟨_,rfl⟩
             replace H : (spec_l2Cauchy.l1 k2 a1 x14_1 (t189.length : Int) x14_1 ((rd_L5 x193000_1 x14_1).length : Int) (wrap64 (x23_2+1)) y198)=some r:=by first|(rw [hy198];with_reducible exact H)|(have H2_:=(Option.bind_some _ _).symm.trans H;rw [hy198];with_reducible exact H2_)|(have H2_:=(Option.bind_some _ _).symm.trans H;with_reducible exact H2_)|with_reducible exact H|(rw [hy198];exact H)|exact H
             have Ny198:=am hy198
             clear hy198
             have H':=am H
             clear H
             try go_wp2
             have n0_:=am (Kd.S_drew HO_193000.out)
             have n1_:=am (qd BK188.out)
             have n2_:=am (qd BK192.out)
             have n3_:=am (pd HB.out)
             clear HO_193000
             clear BK188
             clear BK192
             clear HB
             have HO_193000:=n0_
             have BK188:=n1_
             have BK192:=n2_
             have HB:=n3_
             clear n0_ n1_ n2_ n3_
             obtain ⟨Ao24,co24,eo24⟩:=Kd.S_slice HO_193000.out
             (first|subst eo24|(injection eo24 with f1_ f2_ f3_;have f4_:=f1_.symm;have f5_:=f3_.symm;clear f1_ f2_ f3_;subst f4_;subst f5_))
             have p194 : 0≤(x14_1 : Int):=of_decide_eq_true (by first|(with_reducible assumption)|assumption)
             have q194 : x14_1 < (x193000_2.length : Int):=of_decide_eq_true (by first|(with_reducible assumption)|assumption)
             obtain ⟨ad194,A194_0,c194_0,e194,hx194_0,hl194_0,hi194_0⟩:=at_L5 (Kd.S_reads' HO_193000.out).2.2 x14_1 p194 q194
             cases e194
             obtain ⟨ce194,hce194,hMe194,hcc194⟩:=Kd.S_get HO_193000.out [] x14_1 p194 (by first|exact q194|exact of_decide_eq_true (by first|(with_reducible assumption)|assumption)|(have e_:=(Kd.S_reads' HO_193000.out).1;omega))
             obtain ⟨ve194_0,rfl,ge194_0⟩:=hMe194
             have hv194_0:=hcc194 0 _ rfl
             rw [Nat.add_zero,show ((Kd.slice 5 (Kd.int .u8))).sz=1 from rfl,Nat.mul_one] at hv194_0
             replace hv194_0:=Option.some.inj (hv194_0.symm.trans hx194_0)
             rw [hv194_0] at ge194_0
             have HL194_0:=am (show Kd.R (Kd.int .u8) 5 _ _ _ _ (rd_L5 x193000_2 x14_1) from ge194_0)
             clear hv194_0 ge194_0
             have HX194_0:=am hx194_0
             clear hcc194 hce194
             have HR194_0:=am hi194_0
             have HC194_0:=am hl194_0
             clear hi194_0 hl194_0
             replace p194:=eq_true p194
             replace q194:=eq_true q194
             refine start_ (n:=15) (S:=fun w'=>w'.cell? ⟨gb192,0,none⟩=some (.slice (some ad194) x193000_2.length co24)∧w'.cell? (ad194.add (x14_1).toNat)=some (.slice A194_0 (rd_L5 x193000_2 x14_1).length c194_0)) (ds:=[14]) #[Z,Z,Z,Z,Z,Z,Z,Z,Z,Z,Z,Z,Z,Z,Z] (by kernel_rfl) rfl rfl ⟨(blk_cell BK192.out 0).trans rfl,hx194_0⟩ (fun hHeld=>?_);refine with_tabW spec_l2Cauchy.tab8 spec_l2Cauchy.bits8 (fun HT_ HW_=>?_)
             generalize wr.drew=w23 at HO_193000 BK188 BK192 HB HL194_0 HR194_0 HX194_0 hx194_0 hHeld ⊢
             refine pure_ (i:=0) (N:=some 26) (v:=?_) (a':=?_) #[Y,Z,Z,Z,Z,Z,Z,Z,Z,Z,Z,Z,Z,Z,Z] rfl rfl (any_of HT_.out (by kernel_rfl)) hh (Or.inl ⟨by rfl,?_⟩) ?_ ?_
             rotate_left
             ·intro w'
              go_simp
              with_reducible rfl
             rotate_left
             ·simp only [Act.put,q1,q2,q3,i64_w,i32_w]
              rfl
             refine pure_ (i:=2) (N:=some 28) (v:=?_) (a':=?_) #[Y,Z,Y,Z,Z,Z,Z,Z,Z,Z,Z,Z,Z,Z,Z] rfl rfl (any_of HT_.out (by kernel_rfl)) hh (Or.inl ⟨by rfl,?_⟩) ?_ ?_
             rotate_left
             ·intro w'
              go_simp
              with_reducible rfl
             rotate_left
             ·simp only [Act.put,q1,q2,q3,i64_w,i32_w]
              rfl
             refine pure_ (i:=5) (N:=some 31) (v:=?_) (a':=?_) #[Y,Z,Y,Z,Z,Y,Z,Z,Z,Z,Z,Z,Z,Z,Z] rfl rfl (any_of HT_.out (by kernel_rfl)) hh (Or.inl ⟨by rfl,?_⟩) ?_ ?_
             rotate_left
             ·intro w'
              go_simp
              with_reducible rfl
             rotate_left
             ·simp only [Act.put,q1,q2,q3,i64_w,i32_w]
              rfl
             refine pure_ (i:=6) (N:=some 32) (v:=?_) (a':=?_) #[Y,Z,Y,Z,Z,Y,Y,Z,Z,Z,Z,Z,Z,Z,Z] rfl rfl (any_of HT_.out (by kernel_rfl)) hh (Or.inl ⟨by rfl,?_⟩) ?_ ?_
             rotate_left
             ·intro w'
              go_simp
              with_reducible rfl
             rotate_left
             ·simp only [Act.put,q1,q2,q3,i64_w,i32_w]
              rfl
             refine pure_ (i:=7) (N:=some 33) (v:=?_) (a':=?_) #[Y,Z,Y,Z,Z,Y,Y,Y,Z,Z,Z,Z,Z,Z,Z] rfl rfl (any_of HT_.out (by kernel_rfl)) hh (Or.inl ⟨by rfl,?_⟩) ?_ ?_
             rotate_left
             ·intro w'
              go_simp
              with_reducible rfl
             rotate_left
             ·simp only [Act.put,q1,q2,q3,i64_w,i32_w]
              rfl
             refine pure_ (i:=8) (N:=some 34) (v:=?_) (a':=?_) #[Y,Z,Y,Z,Z,Y,Y,Y,Y,Z,Z,Z,Z,Z,Z] rfl rfl (any_of HT_.out (by kernel_rfl)) hh (Or.inl ⟨by rfl,?_⟩) ?_ ?_
             rotate_left
             ·intro w'
              go_simp
              with_reducible rfl
             rotate_left
             ·simp only [Act.put,q1,q2,q3,i64_w,i32_w]
              rfl
             refine pure_ (i:=9) (N:=some 35) (v:=?_) (a':=?_) #[Y,Z,Y,Z,Z,Y,Y,Y,Y,Y,Z,Z,Z,Z,Z] rfl rfl (any_of HT_.out (by kernel_rfl)) hh (Or.inl ⟨by rfl,?_⟩) ?_ ?_
             rotate_left
             ·intro w'
              go_simp
              with_reducible rfl
             rotate_left
             ·simp only [Act.put,q1,q2,q3,i64_w,i32_w]
              rfl
             refine pure_ (i:=10) (N:=some 36) (v:=?_) (a':=?_) #[Y,Z,Y,Z,Z,Y,Y,Y,Y,Y,Y,Z,Z,Z,Z] rfl rfl (any_of HT_.out (by kernel_rfl)) hh (Or.inl ⟨by rfl,?_⟩) ?_ ?_
             rotate_left
             ·intro w'
              go_simp
              with_reducible rfl
             rotate_left
             ·simp only [Act.put,q1,q2,q3,i64_w,i32_w]
              rfl
             refine pure_ (i:=11) (N:=some 37) (v:=?_) (a':=?_) #[Y,Z,Y,Z,Z,Y,Y,Y,Y,Y,Y,Y,Z,Z,Z] rfl rfl (any_of HT_.out (by kernel_rfl)) hh (Or.inl ⟨by rfl,?_⟩) ?_ ?_
             rotate_left
             ·intro w'
              go_simp
              with_reducible rfl
             rotate_left
             ·simp only [Act.put,q1,q2,q3,i64_w,i32_w]
              rfl
             refine take_ (i:=1) (N:=some 27) (v:=?_) (a':=?_) #[Y,Y,Y,Z,Z,Y,Y,Y,Y,Y,Y,Y,Z,Z,Z] rfl rfl (take_ofW HT_.out HW_.out (by kernel_rfl)) hh (Or.inl ⟨by rfl,?_⟩) hHeld ?_ ?_
             rotate_left
             ·rintro w' ⟨s0,s1⟩
              go_simp
              with_reducible rfl
             rotate_left
             ·simp only [Act.put,q1,q2,q3,i64_w,i32_w]
              rfl
             refine pure_ (i:=3) (N:=some 29) (v:=?_) (a':=?_) #[Y,Y,Y,Y,Z,Y,Y,Y,Y,Y,Y,Y,Z,Z,Z] rfl rfl (any_of HT_.out (by kernel_rfl)) hh (Or.inl ⟨by rfl,?_⟩) ?_ ?_
             rotate_left
             ·intro w'
              go_simp
              with_reducible rfl
             rotate_left
             ·simp only [Act.put,q1,q2,q3,i64_w,i32_w]
              rfl
             refine take_ (i:=4) (N:=some 30) (v:=?_) (a':=?_) #[Y,Y,Y,Y,Y,Y,Y,Y,Y,Y,Y,Y,Z,Z,Z] rfl rfl (take_ofW HT_.out HW_.out (by kernel_rfl)) hh (Or.inl ⟨by rfl,?_⟩) hHeld ?_ ?_
             rotate_left
             ·rintro w' ⟨s0,s1⟩
              go_simp
              with_reducible rfl
             rotate_left
             ·simp only [Act.put,q1,q2,q3,i64_w,i32_w]
              rfl
             refine one_ (i:=12) (N:=some 38) #[Y,Y,Y,Y,Y,Y,Y,Y,Y,Y,Y,Y,Y,Z,Z] rfl rfl (one_of HT_.out (by kernel_rfl)) (by decide) (fun K hK=>?_)
             refine goes_ Try.func203 (by kernel_rfl) rfl #[.int .u8 ((Go.bits .xor .i64 (wrap64 (a1+x14_1)) x23_2) % 256)] (by rfl) rfl rfl (by (try simp only [List.map_toArray,List.map_cons,List.map_nil]);first|done|rfl|(simp only [List.length_drop,List.length_take];rfl)) ?_
             with_reducible refine (spec_l1Inverse.calls k2 ((Go.bits .xor .i64 (wrap64 (a1+x14_1)) x23_2) % 256) t195 _ A19.out).mono ?_
             rintro e w' ⟨rfl,⟨nd,rfl⟩⟩
             refine ⟨_,rfl,?_⟩
             have p22 : 0≤(x23_2 : Int):=of_decide_eq_true (by first|(with_reducible assumption)|assumption)
             have q22 : (x23_2 : Int) < (((rd_L5 x193000_2 x14_1).length : Int) : Int):=of_decide_eq_true (by first|(with_reducible assumption)|assumption)
             obtain ⟨go22,co22,eo22,gb22,gl22,cl22,HG22⟩:=Kd.R_form HL194_0.out (by omega)
             (first|cases eo22|(injection eo22 with ea_ en_ ec_;(first|subst ea_|(injection ea_ with ea_;subst ea_));subst ec_;clear en_))
             have GB22:=am gb22
             have GG22:=am HG22
             clear gb22 gl22 HG22
             obtain ⟨hx22_0,hf22_0⟩:=Kd.R_celln 0 HL194_0.out (x23_2 : Int) p22 q22
             replace p22:=eq_true p22
             replace q22:=eq_true q22
             have hq25 : (x14_1 : Int) < (x193000_2.length : Int):=(by have h_ : (x14_1 : Int) < ((x193000_2.length : Int) : Int):=of_decide_eq_true (by first|(with_reducible assumption)|assumption);first|exact h_|(have e_:=(Kd.S_reads' HO_193000.out).1;omega)|simpa only [List.length_set,List.length_set] using h_)
             obtain ⟨oki25,ce25,hcl25,hM25,hcc25,hok25,hbk25⟩:=Kd.S_borrow HO_193000.out [] (x14_1 : Int) (of_decide_eq_true (by first|(with_reducible assumption)|assumption)) hq25
             obtain ⟨ve25_0,rfl,ge25_0⟩:=hM25
             have hv25:=hcc25 0 _ rfl
             rw [Nat.add_zero,show ((Kd.slice 5 (Kd.int .u8))).sz=1 from rfl,Nat.mul_one] at hv25
             replace hv25:=Option.some.inj (hv25.symm.trans HX194_0.out)
             subst hv25
             clear hcc25 hcl25
             replace ge25_0:=(show Kd.R (Kd.int .u8) 5 _ _ _ _ (rd_L5 x193000_2 x14_1) from ge25_0)
             have HP25:=Kd.R_putg ge25_0 (x23_2 : Int) t195
             rw [← Ny196.out] at HP25
             have HS25:=hbk25 HP25.2 (fun k_ e_=>by injection e_ with e_;subst e_;exact ge25_0.1 _ rfl) (x':=y196) (Kd.M_row HP25.1)
             rw [← Ny198.out] at HS25
             have HQ25:=am HS25
             clear HP25 HS25 hbk25 hok25
             refine hK.out _ _ ⟨(blk_cell BK192.out 0).trans rfl,hHeld.2⟩ (fun hHeld=>?_)
             clear hK K
             refine norm_ (a':=?_) ?_ ?_
             rotate_left
             ·show Act.put _ (some 38) _=_
              simp only [Act.put,q1,q2,q3,i64_w,i32_w]
              rfl
             refine pure_ (i:=13) (N:=some 39) (v:=?_) (a':=?_) #[Y,Y,Y,Y,Y,Y,Y,Y,Y,Y,Y,Y,Y,Y,Z] rfl rfl (any_of HT_.out (by kernel_rfl)) hh (Or.inl ⟨by rfl,?_⟩) ?_ ?_
             rotate_left
             ·intro w'
              go_simp
              with_reducible rfl
             rotate_left
             ·simp only [Act.put,q1,q2,q3,i64_w,i32_w]
              rfl
             refine last_ (i:=14) (N:=none) #[Y,Y,Y,Y,Y,Y,Y,Y,Y,Y,Y,Y,Y,Y,Y] rfl rfl (one_of HT_.out (by kernel_rfl)) (by decide) (fun K hK=>?_)
             refine skip_ (w1:=?_) (by rfl) rfl ?_ ?_
             rotate_left
             ·go_simp
              rfl
             refine hK.out _ _ ?_
             clear hK K
             refine done_ (done_of HT_.out (by kernel_rfl)) ?_
             try go_wp2
             go_roundg k2
             case measure=>have:=HK1.out;have:=HK2.out;omega
             case rel=>exact ⟨(wrap64 (x23_2+1)),(y198),(.slice (some ad194) x193000_2.length co24),(by first|rfl|(simp;done)|(simp [*];done)),H',⟨by have:=HK1.out;have:=HK2.out;omega⟩,⟨by (with_reducible repeat (first|apply Kd.S_alloc|apply Kd.S_drewN|apply Kd.S_drew));exact HQ25.out⟩,⟨by (with_reducible repeat (first|refine qn ?_ _|refine qd ?_|refine qa ?_ _));refine blk_far ?_ (by have h_:=Kd.R_ne HL194_0.out BK188.out (by decide);intro e_;exact h_ (by rw [e_];rfl)) _;(with_reducible repeat (first|refine qn ?_ _|refine qd ?_|refine qa ?_ _));exact BK188.out⟩,⟨by (with_reducible repeat (first|refine qn ?_ _|refine qd ?_|refine qa ?_ _));refine blk_far ?_ (by have h_:=Kd.R_ne HL194_0.out BK192.out (by decide);intro e_;exact h_ (by rw [e_];rfl)) _;(with_reducible repeat (first|refine qn ?_ _|refine qd ?_|refine qa ?_ _));exact BK192.out⟩,⟨by repeat (first|(with_reducible first|exact HB.out|apply pa|apply pb|apply pd|refine pt ?_ GB22.out|refine pt ?_ GE188.out|refine pt ?_ GE192.out)|exact HB.out)⟩⟩
            ·rw [if_neg c21] at H
             exact absurd H (by simp)
           ·rw [if_neg c20] at H
            exact absurd H (by simp)
          ·rw [if_neg c18] at H
           exact absurd H (by simp)
         ·rw [if_neg c17] at H
          exact absurd H (by simp)
        ·rw [if_neg c16] at H
         have c16b0 : decide (x23_2 < ((rd_L5 x193000_1 x14_1).length : Int))=false:=decide_eq_false c16
         clear c16
         have H':=am H
         clear H
         go_wp2
         go_roundg k2
         case measure=>have:=HK1.out;have:=HK2.out;omega
         case rel=>exact ⟨(wrap64 (x14_1+1)),(x193000_2),(u193000),(by first|rfl|(simp;done)|(simp [*];done)),H',⟨by have:=HK1.out;have:=HK2.out;omega⟩,⟨by (with_reducible repeat (first|apply Kd.S_alloc|apply Kd.S_drewN|apply Kd.S_drew));exact HO_193000.out⟩,⟨by (with_reducible repeat (first|refine qn ?_ _|refine qd ?_|refine qa ?_ _));exact BK188.out⟩,⟨by (with_reducible repeat (first|refine qn ?_ _|refine qd ?_|refine qa ?_ _));exact BK192.out⟩,⟨by repeat (first|(with_reducible first|exact HB.out|apply pa|apply pb|apply pd|refine pt ?_ GE188.out|refine pt ?_ GE192.out)|exact HB.out)⟩⟩
     ·rw [if_neg c12] at H
      exact absurd H (by simp)
    ·rw [if_neg c11] at H
     exact absurd H (by simp)
   ·rw [if_neg c10] at H
    have c10b0 : decide (x14_1 < (t189.length : Int))=false:=decide_eq_false c10
    clear c10
    obtain rfl:=Option.some.inj H
    have hnb27:=NB192_188.out
    have hnc27:=NB188_192.out
    have hcz28_0 : wr.cell? ⟨gb192,0,none⟩=some (u193000):=(blk_cell BK192.out 0).trans rfl
    have hfz28_0:=blk_frozen BK192.out 0
    obtain ⟨Ao29,co29,eo29⟩:=Kd.S_slice HO_193000.out
    subst eo29
    have hcz30_0 : wr.cell? ⟨gb188,0,none⟩=some (.slice none 0 0):=(blk_cell BK188.out 0).trans rfl
    have hfz30_0:=blk_frozen BK188.out 0
    go_wp2
    refine bodyPost_ret (results_cell_row rfl _ _ gb188 43 #[.slice Ao29 x193000_1.length co29] (0,0) _ rfl (by (with_reducible repeat (first|refine qn ?_ _|refine qd ?_|refine qa ?_ _));refine blk_put (cs:=#[.slice none 0 0]) ?_ 0 _ rfl;(with_reducible repeat (first|refine qn ?_ _|refine qd ?_|refine qa ?_ _));exact BK188.out) Try.underlying43 rfl (by kernel_rfl)) rfl ?_
    exact ⟨_,by first|rfl|(simp [errW_none,errW_some] <;> rfl)|(simp [*,errW_none,errW_some] <;> rfl),by (with_reducible repeat (first|apply Kd.S_alloc|apply Kd.S_drewN|apply Kd.S_drew));exact Kd.S_mono (Kd.S_far (p:=⟨gb188,0,none⟩) (Kd.S_types HO_193000.out BK188.out (by decide)) (fun _ hk=>hk.2) (.slice Ao29 x193000_1.length co29)) (fun _ hk=>trivial),by repeat (first|(with_reducible first|exact HB.out|apply pa|apply pb|apply pd|refine pt ?_ GE188.out|refine pt ?_ GE192.out)|exact HB.out)⟩

end Go.Proofs.Ytajikfnpcobnpaa.PFnExactRebuildShard
-- HALVED
-- SQUEEZED
-- SQUEEZED2
