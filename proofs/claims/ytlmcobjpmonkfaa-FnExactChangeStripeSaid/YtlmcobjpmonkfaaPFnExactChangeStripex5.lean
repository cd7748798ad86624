-- Laid by a program of this session.
import Derived.Test.YtlmcobjpmonkfaaPFnExactChangeStripex0
import Derived.Test.YtlmcobjpmonkfaaPFnExactChangeStripex4
namespace Go.Proofs.Ytlmcobjpmonkfaa.PFnExactChangeStripe
open Go.RowKit Go.Proofs.YtlmcobjpmonkfaaW.PrintWords Go.Proofs.YtlmcobjpmonkfaaW.PrintLast Go.Proofs.YtlmcobjpmonkfaaW.PrintMore
attribute [local go_sem] max2_int min2_int max_two min_two max_three min_three max_four min_four   -- for this text's walks alone
set_option linter.unusedVariables false
set_option linter.unusedSimpArgs false

/-! ### spec_l6Matrix: function 70 -/
mutual
def spec_l6Matrix.l0 : Nat → Int → Int → List (List Int) → Option ((List (List Int)))
  | 0, _, _, _ => none
  | k + 1, x13, x14, x186000 => if x14 < x13 then (if 0 ≤ x14 then (if x14 < (x186000.length : Int) then (spec_l6Matrix.l1 k x14 x13 x14 ((rd_L2 x186000 x14).length : Int) 0 x186000) else (none)) else (none)) else (some x186000)
def spec_l6Matrix.l1 : Nat → Int → Int → Int → Int → Int → List (List Int) → Option ((List (List Int)))
  | 0, _, _, _, _, _, _ => none
  | k + 1, x6, x13, x14, x22, x23, x186000 => if x23 < x22 then (if 0 ≤ x6 then (if x6 < (x186000.length : Int) then ((spec_l1Power.f k 3 x6).bind fun t188 => ((spec_l1Power.f k t188 x23).bind fun t189 => (if 0 ≤ x23 then (if x23 < ((rd_L2 x186000 x6).length : Int) then (spec_l6Matrix.l1 k x6 x13 x14 x22 (wrap64 (x23 + 1)) (x186000.set (x6 : Int).toNat ((rd_L2 x186000 x6).set (x23 : Int).toNat t189))) else (none)) else (none)))) else (none)) else (none)) else (spec_l6Matrix.l0 k x13 (wrap64 (x14 + 1)) x186000)
end
def spec_l6Matrix.f (k : Nat) (a0 : Int) (a1 : Int) : Option ((List (List Int))) := (spec_l2Blank.f k a1 a0).bind fun t182 => (spec_l6Matrix.l0 k (t182.length : Int) 0 t182)
theorem spec_l6Matrix.mono_l : ∀ k, (∀ y0 y1 y2, LeO (spec_l6Matrix.l0 k y0 y1 y2) (spec_l6Matrix.l0 (k + 1) y0 y1 y2)) ∧ (∀ y0 y1 y2 y3 y4 y5, LeO (spec_l6Matrix.l1 k y0 y1 y2 y3 y4 y5) (spec_l6Matrix.l1 (k + 1) y0 y1 y2 y3 y4 y5))
  | 0 => ⟨fun _ _ _ r h => by simp [spec_l6Matrix.l0] at h, fun _ _ _ _ _ _ r h => by simp [spec_l6Matrix.l1] at h⟩
  | k + 1 => by
    obtain ⟨ih0, ih1⟩ := spec_l6Matrix.mono_l k
    refine ⟨?_, ?_⟩
    · intro y0 y1 y2
      unfold spec_l6Matrix.l0
      repeat' first
      | (with_reducible exact ih0 _ _ _)
      | (with_reducible exact ih1 _ _ _ _ _ _)
      | (with_reducible exact spec_l1Power.mono _ _ _)
      | (with_reducible exact spec_l2Blank.mono _ _ _)
      | (with_reducible exact LeO.refl _)
      | (with_reducible exact LeO.none _)
      | (with_reducible refine LeO.ite ?_ ?_)
      | (with_reducible refine LeO.bind ?_ (fun _ => ?_))
      | exact ih0 _ _ _
      | exact ih1 _ _ _ _ _ _
      | exact spec_l1Power.mono _ _ _
      | exact spec_l2Blank.mono _ _ _
      | exact LeO.none _
      | refine LeO.ite ?_ ?_
      | refine LeO.bind ?_ (fun _ => ?_)
    · intro y0 y1 y2 y3 y4 y5
      unfold spec_l6Matrix.l1
      repeat' first
      | (with_reducible exact ih0 _ _ _)
      | (with_reducible exact ih1 _ _ _ _ _ _)
      | (with_reducible exact spec_l1Power.mono _ _ _)
      | (with_reducible exact spec_l2Blank.mono _ _ _)
      | (with_reducible exact LeO.refl _)
      | (with_reducible exact LeO.none _)
      | (with_reducible refine LeO.ite ?_ ?_)
      | (with_reducible refine LeO.bind ?_ (fun _ => ?_))
      | exact ih0 _ _ _
      | exact ih1 _ _ _ _ _ _
      | exact spec_l1Power.mono _ _ _
      | exact spec_l2Blank.mono _ _ _
      | exact LeO.none _
      | refine LeO.ite ?_ ?_
      | refine LeO.bind ?_ (fun _ => ?_)
theorem spec_l6Matrix.mono : ∀ a0 a1 k, LeO (spec_l6Matrix.f k a0 a1) (spec_l6Matrix.f (k + 1) a0 a1) := by
  intro a0 a1 k
  obtain ⟨ih0, ih1⟩ := spec_l6Matrix.mono_l k
  unfold spec_l6Matrix.f
  repeat' first
      | (with_reducible exact ih0 _ _ _)
      | (with_reducible exact ih1 _ _ _ _ _ _)
      | (with_reducible exact spec_l1Power.mono _ _ _)
      | (with_reducible exact spec_l2Blank.mono _ _ _)
      | (with_reducible exact LeO.refl _)
      | (with_reducible exact LeO.none _)
      | (with_reducible refine LeO.ite ?_ ?_)
      | (with_reducible refine LeO.bind ?_ (fun _ => ?_))
      | exact ih0 _ _ _
      | exact ih1 _ _ _ _ _ _
      | exact spec_l1Power.mono _ _ _
      | exact spec_l2Blank.mono _ _ _
      | exact LeO.none _
      | refine LeO.ite ?_ ?_
      | refine LeO.bind ?_ (fun _ => ?_)
def spec_l6Matrix.T8 : Bool × List (List Nat × List Nat) := (true, [([], []), ([0], [0]), ([], []), ([1, 2], [1, 2]), ([3], [3]), ([], []), ([], []), ([6], [6]), ([], []), ([7, 8, 7], [7, 8]), ([4, 5, 0, 1, 2, 3, 4, 5, 6, 7, 8, 9], [4, 5]), ([10, 9, 9, 0, 1, 2, 3, 4, 5, 6, 7, 8, 9], [9, 10])])
def spec_l6Matrix.B8 : List Nat := [0, 1, 0, 7, 15, 0, 0, 64, 0, 448, 1023, 2047]
theorem spec_l6Matrix.tab8 : rtab .any (opsOf Try.f70 8) = spec_l6Matrix.T8 := by kernel_rfl
theorem spec_l6Matrix.bits8 : waitsOk spec_l6Matrix.T8.2 spec_l6Matrix.B8 = true := by kernel_rfl
set_option maxHeartbeats 8000000 in
set_option maxRecDepth 100000 in
theorem spec_l6Matrix.calls (k : Nat) (a0 : Int) (a1 : Int) (r : List (List Int)) (w : World) (h : spec_l6Matrix.f k a0 a1 = some r) :
    Calls Try.prog 70 #[.int .i64 a0, .int .i64 a1] w fun e w' => ∃ v0_ : Value, e = .returned (.agg #[v0_]) ∧ Kd.S (Kd.slice 5 (Kd.int .u8)) 76 w' w.heap.size (fun _ => True) v0_ r ∧ Below w.heap.size w w' := by
  have hu41 := Try.underlying41
  have HB := Aside0.mk (Below.refl w.heap.size w)
  have H : ((spec_l2Blank.f k a1 a0).bind fun t182 => (spec_l6Matrix.l0 k (t182.length : Int) 0 t182)) = some r := h
  clear h
  replace H := Option.bind_eq_some_iff.mp H
  obtain ⟨t182, A30, H⟩ := H
  replace H : (spec_l6Matrix.l0 k (t182.length : Int) 0 t182) = some r := H
  have A3 := Aside0.mk A30
  clear A30
  have H' := Aside0.mk H
  clear H
  go_enter Try.func70, Try.ntmps70
  go_wp2_with (first | ((with_reducible refine gate_dst (N := 4) rfl ?_); refine box_event ?hg (N := 4) ?hd (cs := #[.slice none 0 0]) (t := 41) ?hr ?_; (case hd => rfl); (case hg => rfl); (case hr => first | (go_simp; done) | (go_simp; rfl)); intro gb181 hg w4 hbox hb; have n0_ := Aside0.mk (below_step (by repeat (first | (with_reducible first | exact HB.out | apply below_alloc | apply pw_below_drewN | apply below_drew1) | exact HB.out)) hb); have n1_ := Aside0.mk (hbox); have n2_ := Aside0.mk ((by rw [hg]; exact (below_size (by repeat (first | (with_reducible first | exact HB.out | apply below_alloc | apply pw_below_drewN | apply below_drew1) | exact HB.out))) : w.heap.size ≤ gb181)); have n3_ := Aside0.mk ((by rw [hg]; exact (below_size (by repeat (first | (with_reducible first | exact HB.out | apply below_alloc | apply pw_below_drewN | apply below_drew1) | exact HB.out))) : w.heap.size ≤ gb181)); clear HB; have HB := n0_; have BK181 := n1_; have GW181 := n2_; have GE181 := n3_; clear n0_ n1_ n2_ n3_; clear hb hbox hg) | ((with_reducible refine gate_callee (f := 129) rfl ?_); refine goesL_ (some 10) rfl rfl Try.func129 (by kernel_rfl) rfl #[.int .i64 a1, .int .i64 a0] rfl (by (try simp only [List.map_toArray, List.map_cons, List.map_nil]); first | done | rfl | (simp only [List.length_drop, List.length_take]; rfl)) ?_; (with_reducible refine (spec_l2Blank.calls k a1 a0 t182 _ A3.out).mono ?_); rintro e w5 ⟨v183, rfl, ho0, hb⟩; refine ⟨_, rfl, ?_⟩; have n0_ := Aside0.mk (Kd.S_lower ho0 (below_size (by repeat (first | (with_reducible first | exact HB.out | apply below_alloc | apply pw_below_drewN | apply below_drew1 | refine below_set ?_ GE181.out) | exact HB.out)))); have n1_ := Aside0.mk (blk_below (g := gb181) (o := .cells #[.slice none 0 0] 41 (0, 0)) (by (with_reducible repeat (first | refine blk_drewN ?_ _ | refine blk_drew ?_ | refine blk_alloc ?_ _)); exact BK181.out) hb); have n2_ := Aside0.mk (below_step (by repeat (first | (with_reducible first | exact HB.out | apply below_alloc | apply pw_below_drewN | apply below_drew1 | refine below_set ?_ GE181.out) | exact HB.out)) hb); clear BK181; clear HB; have HO184 := n0_; have BK181 := n1_; have HB := n2_; clear n0_ n1_ n2_; (try clear hb); (try clear hb2); (try clear hk); (try clear hi); (try clear ho0)) | ((with_reducible refine gate_dst (N := 5) rfl ?_); refine box_event ?hg (N := 5) ?hd (cs := #[.slice none 0 0]) (t := 41) ?hr ?_; (case hd => rfl); (case hg => rfl); (case hr => first | (go_simp; done) | (go_simp; rfl)); intro gb185 hg w6 hbox hb; have n0_ := Aside0.mk (Kd.S_below (by (with_reducible repeat (first | apply Kd.S_alloc | apply Kd.S_drewN | apply Kd.S_drew)); exact HO184.out) hb); have n1_ := Aside0.mk (blk_below (g := gb181) (o := .cells #[.slice none 0 0] 41 (0, 0)) (by (with_reducible repeat (first | refine blk_drewN ?_ _ | refine blk_drew ?_ | refine blk_alloc ?_ _)); exact BK181.out) hb); have n2_ := Aside0.mk (below_step (by repeat (first | (with_reducible first | exact HB.out | apply below_alloc | apply pw_below_drewN | apply below_drew1 | refine below_set ?_ GE181.out) | exact HB.out)) hb); have n3_ := Aside0.mk (hbox); have n4_ := Aside0.mk ((by rw [hg]; exact (below_size (by repeat (first | (with_reducible first | exact HB.out | apply below_alloc | apply pw_below_drewN | apply below_drew1 | refine below_set ?_ GE181.out) | exact HB.out))) : w.heap.size ≤ gb185)); have n5_ := Aside0.mk ((by rw [hg]; exact (below_size (by repeat (first | (with_reducible first | exact HB.out | apply below_alloc | apply pw_below_drewN | apply below_drew1 | refine below_set ?_ GE181.out) | exact HB.out))) : w.heap.size ≤ gb185)); have n6_ := Aside0.mk ((by rw [hg]; exact Nat.ne_of_lt (blk_lt (g := gb181) (o := .cells #[.slice none 0 0] 41 (0, 0)) (by (with_reducible repeat (first | refine blk_drewN ?_ _ | refine blk_drew ?_ | refine blk_alloc ?_ _)); exact BK181.out)) : gb181 ≠ gb185)); have n7_ := Aside0.mk ((by rw [hg]; exact Nat.ne_of_gt (blk_lt (g := gb181) (o := .cells #[.slice none 0 0] 41 (0, 0)) (by (with_reducible repeat (first | refine blk_drewN ?_ _ | refine blk_drew ?_ | refine blk_alloc ?_ _)); exact BK181.out)) : gb185 ≠ gb181)); clear HO184; clear BK181; clear HB; have HO184 := n0_; have BK181 := n1_; have HB := n2_; have BK185 := n3_; have GW185 := n4_; have GE185 := n5_; have NB181_185 := n6_; have NB185_181 := n7_; clear n0_ n1_ n2_ n3_ n4_ n5_ n6_ n7_; clear hb hbox hg; obtain ⟨Ao7, co7, eo7⟩ := Kd.S_slice HO184.out; subst eo7; have hnb8 := NB185_181.out; have hnc8 := NB181_185.out; have hcz9_0 : w6.cell? ⟨gb185, 0, none⟩ = some (.slice none 0 0) := (blk_cell BK185.out 0).trans rfl; have hfz9_0 := blk_frozen BK185.out 0))
  go_loopg [14] k (fun kq v14 w' => ∃ (x14_1 : Int) (x186000_1 : List (List Int)) (u186000 : Value), v14 = .int .i64 x14_1 ∧ Aside0 (spec_l6Matrix.l0 kq (t182.length : Int) x14_1 x186000_1 = some r) ∧ Aside0 (kq ≤ k) ∧ Aside0 (Kd.S (Kd.slice 5 (Kd.int .u8)) 76 w' w.heap.size (fun _ => True) u186000 x186000_1) ∧ Aside0 (w'.heap[gb181]? = some (.cells #[(.slice none 0 0)] 41 (0, 0))) ∧ Aside0 (w'.heap[gb185]? = some (.cells #[u186000] 41 (0, 0))) ∧ Aside0 (Below w.heap.size w w'))
  case atStart => exact ⟨(0), (t182), (.slice Ao7 t182.length co7), (by first | rfl | (simp; done) | (simp [*]; done)), H', ⟨Nat.le_refl _⟩, ⟨by (with_reducible repeat (first | apply Kd.S_alloc | apply Kd.S_drewN | apply Kd.S_drew)); exact Kd.S_mono (Kd.S_far (p := ⟨gb185, 0, none⟩) (Kd.S_types HO184.out BK185.out (by decide)) (fun _ hk => hk.2) (.slice Ao7 t182.length co7)) (fun _ hk => trivial)⟩, ⟨by (with_reducible repeat (first | refine blk_drewN ?_ _ | refine blk_drew ?_ | refine blk_alloc ?_ _)); refine blk_far ?_ NB181_185.out _; (with_reducible repeat (first | refine blk_drewN ?_ _ | refine blk_drew ?_ | refine blk_alloc ?_ _)); exact BK181.out⟩, ⟨by (with_reducible repeat (first | refine blk_drewN ?_ _ | refine blk_drew ?_ | refine blk_alloc ?_ _)); refine blk_put (cs := #[.slice none 0 0]) ?_ 0 _ rfl; (with_reducible repeat (first | refine blk_drewN ?_ _ | refine blk_drew ?_ | refine blk_alloc ?_ _)); exact BK185.out⟩, ⟨by repeat (first | (with_reducible first | exact HB.out | apply below_alloc | apply pw_below_drewN | apply below_drew1 | refine below_set ?_ GE181.out | refine below_set ?_ GE185.out) | exact HB.out)⟩⟩
  case round =>
    clear H'
    try clear c1
    try clear p2
    try clear c7
    try clear c8
    try clear hcz9_0
    try clear hfz9_0
    obtain ⟨x14_1, x186000_1, u186000, rfl, HA, HK1, HO_186000, BK181, BK185, HB⟩ := hrel
    cases gk with
    | zero => exact absurd HA.out (by simp [spec_l6Matrix.l0])
    | succ k1 =>
      have H := HA.out
      clear HA
      simp only [spec_l6Matrix.l0] at H
      by_cases c10 : x14_1 < (t182.length : Int)
      · rw [if_pos c10] at H
        have c10b0 : decide (x14_1 < (t182.length : Int)) = true := decide_eq_true c10
        clear c10
        by_cases c11 : 0 ≤ x14_1
        · rw [if_pos c11] at H
          have c11b0 : decide (0 ≤ x14_1) = true := decide_eq_true c11
          clear c11
          by_cases c12 : x14_1 < (x186000_1.length : Int)
          · rw [if_pos c12] at H
            have c12b0 : decide (x14_1 < (x186000_1.length : Int)) = true := decide_eq_true c12
            clear c12
            have H' := Aside0.mk H
            clear H
            have hnb13 := NB185_181.out
            have hnc13 := NB181_185.out
            have hcz14_0 : wr.cell? ⟨gb185, 0, none⟩ = some (u186000) := (blk_cell BK185.out 0).trans rfl
            have hfz14_0 := blk_frozen BK185.out 0
            obtain ⟨Ao15, co15, eo15⟩ := Kd.S_slice HO_186000.out
            subst eo15
            have p186 : 0 ≤ (x14_1 : Int) := of_decide_eq_true (by first | (with_reducible assumption) | assumption)
            have q186 : x14_1 < (x186000_1.length : Int) := of_decide_eq_true (by first | (with_reducible assumption) | assumption)
            obtain ⟨ad186, A186_0, c186_0, e186, hx186_0, hl186_0, hi186_0⟩ := at_L2 (Kd.S_reads' HO_186000.out).2.2 x14_1 p186 q186
            cases e186
            obtain ⟨ce186, hce186, hMe186, hcc186⟩ := Kd.S_get HO_186000.out [] x14_1 p186 (by first | exact q186 | exact of_decide_eq_true (by first | (with_reducible assumption) | assumption) | (have e_ := (Kd.S_reads' HO_186000.out).1; omega))
            obtain ⟨ve186_0, rfl, ge186_0⟩ := hMe186
            have hv186_0 := hcc186 0 _ rfl
            rw [Nat.add_zero, show ((Kd.slice 5 (Kd.int .u8))).sz = 1 from rfl, Nat.mul_one] at hv186_0
            replace hv186_0 := Option.some.inj (hv186_0.symm.trans hx186_0)
            rw [hv186_0] at ge186_0
            have HL186_0 := Aside0.mk (show Kd.R (Kd.int .u8) 5 _ _ _ _ (rd_L2 x186000_1 x14_1) from ge186_0)
            clear hv186_0 ge186_0
            have HX186_0 := Aside0.mk hx186_0
            clear hcc186 hce186
            have HR186_0 := Aside0.mk hi186_0
            have HC186_0 := Aside0.mk hl186_0
            clear hi186_0 hl186_0
            replace p186 := eq_true p186
            replace q186 := eq_true q186
            go_wp2
            go_loopg [23] k1 (fun kq v23 w' => ∃ (x23_2 : Int) (x186000_2 : List (List Int)) (u186000 : Value), v23 = .int .i64 x23_2 ∧ Aside0 (spec_l6Matrix.l1 kq x14_1 (t182.length : Int) x14_1 ((rd_L2 x186000_1 x14_1).length : Int) x23_2 x186000_2 = some r) ∧ Aside0 (kq ≤ k1) ∧ Aside0 (Kd.S (Kd.slice 5 (Kd.int .u8)) 76 w' w.heap.size (fun _ => True) u186000 x186000_2) ∧ Aside0 (w'.heap[gb181]? = some (.cells #[(.slice none 0 0)] 41 (0, 0))) ∧ Aside0 (w'.heap[gb185]? = some (.cells #[u186000] 41 (0, 0))) ∧ Aside0 (Below w.heap.size w w'))
            case atStart => exact ⟨(0), (x186000_1), (.slice (some ad186) x186000_1.length co15), (by first | rfl | (simp; done) | (simp [*]; done)), H', ⟨Nat.le_refl _⟩, ⟨by (with_reducible repeat (first | apply Kd.S_alloc | apply Kd.S_drewN | apply Kd.S_drew)); exact HO_186000.out⟩, ⟨by (with_reducible repeat (first | refine blk_drewN ?_ _ | refine blk_drew ?_ | refine blk_alloc ?_ _)); exact BK181.out⟩, ⟨by (with_reducible repeat (first | refine blk_drewN ?_ _ | refine blk_drew ?_ | refine blk_alloc ?_ _)); exact BK185.out⟩, ⟨by repeat (first | (with_reducible first | exact HB.out | apply below_alloc | apply pw_below_drewN | apply below_drew1 | refine below_set ?_ GE181.out | refine below_set ?_ GE185.out) | exact HB.out)⟩⟩
            case round =>
              clear H'
              try clear c1
              try clear p1
              try clear q1
              try clear hx1
              try clear p2
              try clear c7
              try clear c8
              try clear c10
              try clear c10b0
              try clear c11
              try clear c11b0
              try clear c12
              try clear c12b0
              try clear c13
              try clear hcz14_0
              try clear hcz9_0
              try clear hfz14_0
              try clear hfz9_0
              try clear hx186_0
              try clear p186
              try clear p2
              try clear q186
              obtain ⟨x23_2, x186000_2, u186000, rfl, HA, HK2, HO_186000, BK181, BK185, HB⟩ := hrel
              cases gk with
              | zero => exact absurd HA.out (by simp [spec_l6Matrix.l1])
              | succ k2 =>
                have H := HA.out
                clear HA
                simp only [spec_l6Matrix.l1] at H
                by_cases c16 : x23_2 < ((rd_L2 x186000_1 x14_1).length : Int)
                · rw [if_pos c16] at H
                  have c16b0 : decide (x23_2 < ((rd_L2 x186000_1 x14_1).length : Int)) = true := decide_eq_true c16
                  clear c16
                  by_cases c17 : 0 ≤ x14_1
                  · rw [if_pos c17] at H
                    have c17b0 : decide (0 ≤ x14_1) = true := decide_eq_true c17
                    clear c17
                    by_cases c18 : x14_1 < (x186000_2.length : Int)
                    · rw [if_pos c18] at H
                      have c18b0 : decide (x14_1 < (x186000_2.length : Int)) = true := decide_eq_true c18
                      clear c18
                      replace H := Option.bind_eq_some_iff.mp H
                      obtain ⟨t188, A190, H⟩ := H
                      replace H : ((spec_l1Power.f k2 t188 x23_2).bind fun t189 => (if 0 ≤ x23_2 then (if x23_2 < ((rd_L2 x186000_2 x14_1).length : Int) then (spec_l6Matrix.l1 k2 x14_1 (t182.length : Int) x14_1 ((rd_L2 x186000_1 x14_1).length : Int) (wrap64 (x23_2 + 1)) (x186000_2.set (x14_1 : Int).toNat ((rd_L2 x186000_2 x14_1).set (x23_2 : Int).toNat t189))) else (none)) else (none))) = some r := H
                      have A19 := Aside0.mk A190
                      clear A190
                      replace H := Option.bind_eq_some_iff.mp H
                      obtain ⟨t189, A200, H⟩ := H
                      replace H : (if 0 ≤ x23_2 then (if x23_2 < ((rd_L2 x186000_2 x14_1).length : Int) then (spec_l6Matrix.l1 k2 x14_1 (t182.length : Int) x14_1 ((rd_L2 x186000_1 x14_1).length : Int) (wrap64 (x23_2 + 1)) (x186000_2.set (x14_1 : Int).toNat ((rd_L2 x186000_2 x14_1).set (x23_2 : Int).toNat t189))) else (none)) else (none)) = some r := H
                      have A20 := Aside0.mk A200
                      clear A200
                      by_cases c21 : 0 ≤ x23_2
                      · rw [if_pos c21] at H
                        have c21b0 : decide (0 ≤ x23_2) = true := decide_eq_true c21
                        clear c21
                        by_cases c22 : x23_2 < ((rd_L2 x186000_2 x14_1).length : Int)
                        · rw [if_pos c22] at H
                          have c22b0 : decide (x23_2 < ((rd_L2 x186000_2 x14_1).length : Int)) = true := decide_eq_true c22
                          clear c22
                          obtain ⟨y190, hy190⟩ : ∃ y_ : List Int, y_ = ((rd_L2 x186000_2 x14_1).set (x23_2 : Int).toNat t189) := ⟨_, rfl⟩
                          replace H : (spec_l6Matrix.l1 k2 x14_1 (t182.length : Int) x14_1 ((rd_L2 x186000_1 x14_1).length : Int) (wrap64 (x23_2 + 1)) (x186000_2.set (x14_1 : Int).toNat y190)) = some r := by first | (rw [hy190]; with_reducible exact H) | (have H2_ := (Option.bind_some _ _).symm.trans H; rw [hy190]; with_reducible exact H2_) | (have H2_ := (Option.bind_some _ _).symm.trans H; with_reducible exact H2_) | with_reducible exact H | (rw [hy190]; exact H) | exact H
                          have Ny190 := Aside0.mk hy190
                          clear hy190
                          obtain ⟨y192, hy192⟩ : ∃ y_ : List (List Int), y_ = (x186000_2.set (x14_1 : Int).toNat y190) := ⟨_, rfl⟩
                          replace H : (spec_l6Matrix.l1 k2 x14_1 (t182.length : Int) x14_1 ((rd_L2 x186000_1 x14_1).length : Int) (wrap64 (x23_2 + 1)) y192) = some r := by first | (rw [hy192]; with_reducible exact H) | (have H2_ := (Option.bind_some _ _).symm.trans H; rw [hy192]; with_reducible exact H2_) | (have H2_ := (Option.bind_some _ _).symm.trans H; with_reducible exact H2_) | with_reducible exact H | (rw [hy192]; exact H) | exact H
                          have Ny192 := Aside0.mk hy192
                          clear hy192
                          have H' := Aside0.mk H
                          clear H
                          try go_wp2
                          have n0_ := Aside0.mk (Kd.S_drew HO_186000.out)
                          have n1_ := Aside0.mk (blk_drew BK181.out)
                          have n2_ := Aside0.mk (blk_drew BK185.out)
                          have n3_ := Aside0.mk (below_drew1 HB.out)
                          clear HO_186000
                          clear BK181
                          clear BK185
                          clear HB
                          have HO_186000 := n0_
                          have BK181 := n1_
                          have BK185 := n2_
                          have HB := n3_
                          clear n0_ n1_ n2_ n3_
                          obtain ⟨Ao25, co25, eo25⟩ := Kd.S_slice HO_186000.out
                          (first | subst eo25 | (injection eo25 with f1_ f2_ f3_; have f4_ := f1_.symm; have f5_ := f3_.symm; clear f1_ f2_ f3_; subst f4_; subst f5_))
                          have p187 : 0 ≤ (x14_1 : Int) := of_decide_eq_true (by first | (with_reducible assumption) | assumption)
                          have q187 : x14_1 < (x186000_2.length : Int) := of_decide_eq_true (by first | (with_reducible assumption) | assumption)
                          obtain ⟨ad187, A187_0, c187_0, e187, hx187_0, hl187_0, hi187_0⟩ := at_L2 (Kd.S_reads' HO_186000.out).2.2 x14_1 p187 q187
                          cases e187
                          obtain ⟨ce187, hce187, hMe187, hcc187⟩ := Kd.S_get HO_186000.out [] x14_1 p187 (by first | exact q187 | exact of_decide_eq_true (by first | (with_reducible assumption) | assumption) | (have e_ := (Kd.S_reads' HO_186000.out).1; omega))
                          obtain ⟨ve187_0, rfl, ge187_0⟩ := hMe187
                          have hv187_0 := hcc187 0 _ rfl
                          rw [Nat.add_zero, show ((Kd.slice 5 (Kd.int .u8))).sz = 1 from rfl, Nat.mul_one] at hv187_0
                          replace hv187_0 := Option.some.inj (hv187_0.symm.trans hx187_0)
                          rw [hv187_0] at ge187_0
                          have HL187_0 := Aside0.mk (show Kd.R (Kd.int .u8) 5 _ _ _ _ (rd_L2 x186000_2 x14_1) from ge187_0)
                          clear hv187_0 ge187_0
                          have HX187_0 := Aside0.mk hx187_0
                          clear hcc187 hce187
                          have HR187_0 := Aside0.mk hi187_0
                          have HC187_0 := Aside0.mk hl187_0
                          clear hi187_0 hl187_0
                          replace p187 := eq_true p187
                          replace q187 := eq_true q187
                          refine start_ (n := 12) (S := fun w' => w'.cell? ⟨gb185, 0, none⟩ = some (.slice (some ad187) x186000_2.length co25) ∧ w'.cell? (ad187.add (x14_1).toNat) = some (.slice A187_0 (rd_L2 x186000_2 x14_1).length c187_0)) (ds := [11]) #[false, false, false, false, false, false, false, false, false, false, false, false] (by kernel_rfl) rfl rfl ⟨(blk_cell BK185.out 0).trans rfl, hx187_0⟩ (fun hHeld => ?_); refine with_tabW spec_l6Matrix.tab8 spec_l6Matrix.bits8 (fun HT_ HW_ => ?_)
                          generalize wr.drew = w24 at HO_186000 BK181 BK185 HB HL187_0 HR187_0 HX187_0 hx187_0 hHeld ⊢
                          refine pure_ (i := 0) (N := some 26) (v := ?_) (a' := ?_) #[true, false, false, false, false, false, false, false, false, false, false, false] rfl rfl (any_of HT_.out (by kernel_rfl)) (fun _ _ _ h => h) (Or.inl ⟨by rfl, ?_⟩) ?_ ?_
                          rotate_left
                          · intro w'
                            go_simp
                            with_reducible rfl
                          rotate_left
                          · simp only [Act.put, List.setIfInBounds_toArray, List.set_cons_zero, List.set_cons_succ, i64_w, i32_w]
                            rfl
                          refine pure_ (i := 2) (N := some 28) (v := ?_) (a' := ?_) #[true, false, true, false, false, false, false, false, false, false, false, false] rfl rfl (any_of HT_.out (by kernel_rfl)) (fun _ _ _ h => h) (Or.inl ⟨by rfl, ?_⟩) ?_ ?_
                          rotate_left
                          · intro w'
                            go_simp
                            with_reducible rfl
                          rotate_left
                          · simp only [Act.put, List.setIfInBounds_toArray, List.set_cons_zero, List.set_cons_succ, i64_w, i32_w]
                            rfl
                          refine pure_ (i := 5) (N := some 31) (v := ?_) (a' := ?_) #[true, false, true, false, false, true, false, false, false, false, false, false] rfl rfl (any_of HT_.out (by kernel_rfl)) (fun _ _ _ h => h) (Or.inl ⟨by rfl, ?_⟩) ?_ ?_
                          rotate_left
                          · intro w'
                            go_simp
                            with_reducible rfl
                          rotate_left
                          · simp only [Act.put, List.setIfInBounds_toArray, List.set_cons_zero, List.set_cons_succ, i64_w, i32_w]
                            rfl
                          refine pure_ (i := 6) (N := some 32) (v := ?_) (a' := ?_) #[true, false, true, false, false, true, true, false, false, false, false, false] rfl rfl (any_of HT_.out (by kernel_rfl)) (fun _ _ _ h => h) (Or.inl ⟨by rfl, ?_⟩) ?_ ?_
                          rotate_left
                          · intro w'
                            go_simp
                            with_reducible rfl
                          rotate_left
                          · simp only [Act.put, List.setIfInBounds_toArray, List.set_cons_zero, List.set_cons_succ, i64_w, i32_w]
                            rfl
                          refine pure_ (i := 8) (N := some 34) (v := ?_) (a' := ?_) #[true, false, true, false, false, true, true, false, true, false, false, false] rfl rfl (any_of HT_.out (by kernel_rfl)) (fun _ _ _ h => h) (Or.inl ⟨by rfl, ?_⟩) ?_ ?_
                          rotate_left
                          · intro w'
                            go_simp
                            with_reducible rfl
                          rotate_left
                          · simp only [Act.put, List.setIfInBounds_toArray, List.set_cons_zero, List.set_cons_succ, i64_w, i32_w]
                            rfl
                          refine take_ (i := 1) (N := some 27) (v := ?_) (a' := ?_) #[true, true, true, false, false, true, true, false, true, false, false, false] rfl rfl (take_ofW HT_.out HW_.out (by kernel_rfl)) (fun _ _ _ h => h) (Or.inl ⟨by rfl, ?_⟩) hHeld ?_ ?_
                          rotate_left
                          · rintro w' ⟨s0, s1⟩
                            go_simp
                            with_reducible rfl
                          rotate_left
                          · simp only [Act.put, List.setIfInBounds_toArray, List.set_cons_zero, List.set_cons_succ, i64_w, i32_w]
                            rfl
                          refine pure_ (i := 3) (N := some 29) (v := ?_) (a' := ?_) #[true, true, true, true, false, true, true, false, true, false, false, false] rfl rfl (any_of HT_.out (by kernel_rfl)) (fun _ _ _ h => h) (Or.inl ⟨by rfl, ?_⟩) ?_ ?_
                          rotate_left
                          · intro w'
                            go_simp
                            with_reducible rfl
                          rotate_left
                          · simp only [Act.put, List.setIfInBounds_toArray, List.set_cons_zero, List.set_cons_succ, i64_w, i32_w]
                            rfl
                          refine take_ (i := 4) (N := some 30) (v := ?_) (a' := ?_) #[true, true, true, true, true, true, true, false, true, false, false, false] rfl rfl (take_ofW HT_.out HW_.out (by kernel_rfl)) (fun _ _ _ h => h) (Or.inl ⟨by rfl, ?_⟩) hHeld ?_ ?_
                          rotate_left
                          · rintro w' ⟨s0, s1⟩
                            go_simp
                            with_reducible rfl
                          rotate_left
                          · simp only [Act.put, List.setIfInBounds_toArray, List.set_cons_zero, List.set_cons_succ, i64_w, i32_w]
                            rfl
                          refine one_ (i := 7) (N := some 33) #[true, true, true, true, true, true, true, true, true, false, false, false] rfl rfl (one_of HT_.out (by kernel_rfl)) (by decide) (fun K hK => ?_)
                          refine goes_ Try.func91 (by kernel_rfl) rfl #[.int .u8 3, .int .i64 x14_1] (by rfl) rfl rfl (by (try simp only [List.map_toArray, List.map_cons, List.map_nil]); first | done | rfl | (simp only [List.length_drop, List.length_take]; rfl)) ?_
                          with_reducible refine (spec_l1Power.calls k2 3 x14_1 t188 _ A19.out).mono ?_
                          rintro e w' ⟨rfl, ⟨nd, rfl⟩⟩
                          refine ⟨_, rfl, ?_⟩
                          refine hK.out _ _ ⟨(blk_cell BK185.out 0).trans rfl, hHeld.2⟩ (fun hHeld => ?_)
                          clear hK K
                          refine norm_ (a' := ?_) ?_ ?_
                          rotate_left
                          · show Act.put _ (some 33) _ = _
                            simp only [Act.put, List.setIfInBounds_toArray, List.set_cons_zero, List.set_cons_succ, i64_w, i32_w]
                            rfl
                          refine one_ (i := 9) (N := some 35) #[true, true, true, true, true, true, true, true, true, true, false, false] rfl rfl (one_of HT_.out (by kernel_rfl)) (by decide) (fun K hK => ?_)
                          refine goes_ Try.func91 (by kernel_rfl) rfl #[.int .u8 t188, .int .i64 x23_2] (by rfl) rfl rfl (by (try simp only [List.map_toArray, List.map_cons, List.map_nil]); first | done | rfl | (simp only [List.length_drop, List.length_take]; rfl)) ?_
                          with_reducible refine (spec_l1Power.calls k2 t188 x23_2 t189 _ A20.out).mono ?_
                          rintro e w' ⟨rfl, ⟨nd, rfl⟩⟩
                          refine ⟨_, rfl, ?_⟩
                          have p23 : 0 ≤ (x23_2 : Int) := of_decide_eq_true (by first | (with_reducible assumption) | assumption)
                          have q23 : (x23_2 : Int) < (((rd_L2 x186000_2 x14_1).length : Int) : Int) := of_decide_eq_true (by first | (with_reducible assumption) | assumption)
                          obtain ⟨go23, co23, eo23, gb23, gl23, cl23, HG23⟩ := Kd.R_form HL187_0.out (by omega)
                          (first | cases eo23 | (injection eo23 with ea_ en_ ec_; (first | subst ea_ | (injection ea_ with ea_; subst ea_)); subst ec_; clear en_))
                          have GB23 := Aside0.mk gb23
                          have GG23 := Aside0.mk HG23
                          clear gb23 gl23 HG23
                          obtain ⟨hx23_0, hf23_0⟩ := Kd.R_celln 0 HL187_0.out (x23_2 : Int) p23 q23
                          replace p23 := eq_true p23
                          replace q23 := eq_true q23
                          have hq26 : (x14_1 : Int) < (x186000_2.length : Int) := (by have h_ : (x14_1 : Int) < ((x186000_2.length : Int) : Int) := of_decide_eq_true (by first | (with_reducible assumption) | assumption); first | exact h_ | (have e_ := (Kd.S_reads' HO_186000.out).1; omega) | simpa only [List.length_set, List.length_set] using h_)
                          obtain ⟨oki26, ce26, hcl26, hM26, hcc26, hok26, hbk26⟩ := Kd.S_borrow HO_186000.out [] (x14_1 : Int) (of_decide_eq_true (by first | (with_reducible assumption) | assumption)) hq26
                          obtain ⟨ve26_0, rfl, ge26_0⟩ := hM26
                          have hv26 := hcc26 0 _ rfl
                          rw [Nat.add_zero, show ((Kd.slice 5 (Kd.int .u8))).sz = 1 from rfl, Nat.mul_one] at hv26
                          replace hv26 := Option.some.inj (hv26.symm.trans HX187_0.out)
                          subst hv26
                          clear hcc26 hcl26
                          replace ge26_0 := (show Kd.R (Kd.int .u8) 5 _ _ _ _ (rd_L2 x186000_2 x14_1) from ge26_0)
                          have HP26 := Kd.R_putg ge26_0 (x23_2 : Int) t189
                          rw [← Ny190.out] at HP26
                          have HS26 := hbk26 HP26.2 (fun k_ e_ => by injection e_ with e_; subst e_; exact ge26_0.1 _ rfl) (x' := y190) (Kd.M_row HP26.1)
                          rw [← Ny192.out] at HS26
                          have HQ26 := Aside0.mk HS26
                          clear HP26 HS26 hbk26 hok26
                          refine hK.out _ _ ⟨(blk_cell BK185.out 0).trans rfl, hHeld.2⟩ (fun hHeld => ?_)
                          clear hK K
                          refine norm_ (a' := ?_) ?_ ?_
                          rotate_left
                          · show Act.put _ (some 35) _ = _
                            simp only [Act.put, List.setIfInBounds_toArray, List.set_cons_zero, List.set_cons_succ, i64_w, i32_w]
                            rfl
                          refine pure_ (i := 10) (N := some 36) (v := ?_) (a' := ?_) #[true, true, true, true, true, true, true, true, true, true, true, false] rfl rfl (any_of HT_.out (by kernel_rfl)) (fun _ _ _ h => h) (Or.inl ⟨by rfl, ?_⟩) ?_ ?_
                          rotate_left
                          · intro w'
                            go_simp
                            with_reducible rfl
                          rotate_left
                          · simp only [Act.put, List.setIfInBounds_toArray, List.set_cons_zero, List.set_cons_succ, i64_w, i32_w]
                            rfl
                          refine last_ (i := 11) (N := none) #[true, true, true, true, true, true, true, true, true, true, true, true] rfl rfl (one_of HT_.out (by kernel_rfl)) (by decide) (fun K hK => ?_)
                          refine skip_ (w1 := ?_) (by rfl) rfl ?_ ?_
                          rotate_left
                          · go_simp
                            rfl
                          refine hK.out _ _ ?_
                          clear hK K
                          refine done_ (done_of HT_.out (by kernel_rfl)) ?_
                          try go_wp2
                          go_roundg k2
                          case measure => have := HK1.out; have := HK2.out; omega
                          case rel => exact ⟨(wrap64 (x23_2 + 1)), (y192), (.slice (some ad187) x186000_2.length co25), (by first | rfl | (simp; done) | (simp [*]; done)), H', ⟨by have := HK1.out; have := HK2.out; omega⟩, ⟨by (with_reducible repeat (first | apply Kd.S_alloc | apply Kd.S_drewN | apply Kd.S_drew)); exact HQ26.out⟩, ⟨by (with_reducible repeat (first | refine blk_drewN ?_ _ | refine blk_drew ?_ | refine blk_alloc ?_ _)); refine blk_far ?_ (by have h_ := Kd.R_ne HL187_0.out BK181.out (by decide); intro e_; exact h_ (by rw [e_]; rfl)) _; (with_reducible repeat (first | refine blk_drewN ?_ _ | refine blk_drew ?_ | refine blk_alloc ?_ _)); exact BK181.out⟩, ⟨by (with_reducible repeat (first | refine blk_drewN ?_ _ | refine blk_drew ?_ | refine blk_alloc ?_ _)); refine blk_far ?_ (by have h_ := Kd.R_ne HL187_0.out BK185.out (by decide); intro e_; exact h_ (by rw [e_]; rfl)) _; (with_reducible repeat (first | refine blk_drewN ?_ _ | refine blk_drew ?_ | refine blk_alloc ?_ _)); exact BK185.out⟩, ⟨by repeat (first | (with_reducible first | exact HB.out | apply below_alloc | apply pw_below_drewN | apply below_drew1 | refine below_set ?_ GB23.out | refine below_set ?_ GE181.out | refine below_set ?_ GE185.out) | exact HB.out)⟩⟩
                        · rw [if_neg c22] at H
                          exact absurd H (by simp)
                      · rw [if_neg c21] at H
                        exact absurd H (by simp)
                    · rw [if_neg c18] at H
                      exact absurd H (by simp)
                  · rw [if_neg c17] at H
                    exact absurd H (by simp)
                · rw [if_neg c16] at H
                  have c16b0 : decide (x23_2 < ((rd_L2 x186000_1 x14_1).length : Int)) = false := decide_eq_false c16
                  clear c16
                  have H' := Aside0.mk H
                  clear H
                  go_wp2
                  go_roundg k2
                  case measure => have := HK1.out; have := HK2.out; omega
                  case rel => exact ⟨(wrap64 (x14_1 + 1)), (x186000_2), (u186000), (by first | rfl | (simp; done) | (simp [*]; done)), H', ⟨by have := HK1.out; have := HK2.out; omega⟩, ⟨by (with_reducible repeat (first | apply Kd.S_alloc | apply Kd.S_drewN | apply Kd.S_drew)); exact HO_186000.out⟩, ⟨by (with_reducible repeat (first | refine blk_drewN ?_ _ | refine blk_drew ?_ | refine blk_alloc ?_ _)); exact BK181.out⟩, ⟨by (with_reducible repeat (first | refine blk_drewN ?_ _ | refine blk_drew ?_ | refine blk_alloc ?_ _)); exact BK185.out⟩, ⟨by repeat (first | (with_reducible first | exact HB.out | apply below_alloc | apply pw_below_drewN | apply below_drew1 | refine below_set ?_ GE181.out | refine below_set ?_ GE185.out) | exact HB.out)⟩⟩
          · rw [if_neg c12] at H
            exact absurd H (by simp)
        · rw [if_neg c11] at H
          exact absurd H (by simp)
      · rw [if_neg c10] at H
        have c10b0 : decide (x14_1 < (t182.length : Int)) = false := decide_eq_false c10
        clear c10
        obtain rfl := Option.some.inj H
        have hnb28 := NB185_181.out
        have hnc28 := NB181_185.out
        have hcz29_0 : wr.cell? ⟨gb185, 0, none⟩ = some (u186000) := (blk_cell BK185.out 0).trans rfl
        have hfz29_0 := blk_frozen BK185.out 0
        obtain ⟨Ao30, co30, eo30⟩ := Kd.S_slice HO_186000.out
        subst eo30
        have hcz31_0 : wr.cell? ⟨gb181, 0, none⟩ = some (.slice none 0 0) := (blk_cell BK181.out 0).trans rfl
        have hfz31_0 := blk_frozen BK181.out 0
        go_wp2
        refine bodyPost_ret (results_cell_row rfl _ _ gb181 41 #[.slice Ao30 x186000_1.length co30] (0, 0) _ rfl (by (with_reducible repeat (first | refine blk_drewN ?_ _ | refine blk_drew ?_ | refine blk_alloc ?_ _)); refine blk_put (cs := #[.slice none 0 0]) ?_ 0 _ rfl; (with_reducible repeat (first | refine blk_drewN ?_ _ | refine blk_drew ?_ | refine blk_alloc ?_ _)); exact BK181.out) Try.underlying41 rfl (by kernel_rfl)) rfl ?_
        exact ⟨_, by first | rfl | (simp [errW_none, errW_some] <;> rfl) | (simp [*, errW_none, errW_some] <;> rfl), by (with_reducible repeat (first | apply Kd.S_alloc | apply Kd.S_drewN | apply Kd.S_drew)); exact Kd.S_mono (Kd.S_far (p := ⟨gb181, 0, none⟩) (Kd.S_types HO_186000.out BK181.out (by decide)) (fun _ hk => hk.2) (.slice Ao30 x186000_1.length co30)) (fun _ hk => trivial), by repeat (first | (with_reducible first | exact HB.out | apply below_alloc | apply pw_below_drewN | apply below_drew1 | refine below_set ?_ GE181.out | refine below_set ?_ GE185.out) | exact HB.out)⟩

/-! ### spec_l6Plus: function 72 (by hand) -/
section
open Go.Proofs.Ytlmcobjpmonkfaa.KitW
def spec_l6Plus.l (k : Nat) (a0 : ByteArray) (a1 : Int) (a2 : ByteArray) : Nat → Option (List Int)
  | 0 => some []
  | n + 1 => (spec_l6Plus.l k a0 a1 a2 n).bind fun xs => (spec_l1Times.f k a1 (bt a2 (n : Int))).bind fun t => some (xs ++ [bits .xor .u8 (bt a0 (n : Int)) t])
def spec_l6Plus.f (k : Nat) (a0 : ByteArray) (a1 : Int) (a2 : ByteArray) : Option ByteArray := if a0.size ≤ 140737488355328 ∧ a0.size ≤ a2.size then (spec_l6Plus.l k a0 a1 a2 a0.size).bind fun t => some (strOfNums t) else none
theorem spec_l6Plus.mono_l (a0 : ByteArray) (a1 : Int) (a2 : ByteArray) (k : Nat) : ∀ n, LeO (spec_l6Plus.l k a0 a1 a2 n) (spec_l6Plus.l (k + 1) a0 a1 a2 n)
  | 0 => LeO.refl _
  | n + 1 => LeO.bind (spec_l6Plus.mono_l a0 a1 a2 k n) (fun _ => LeO.bind (spec_l1Times.mono _ _ _) (fun _ => LeO.refl _))
theorem spec_l6Plus.mono : ∀ a0 a1 a2 k, LeO (spec_l6Plus.f k a0 a1 a2) (spec_l6Plus.f (k + 1) a0 a1 a2) := by
  intro a0 a1 a2 k
  unfold spec_l6Plus.f
  exact LeO.ite (LeO.bind (spec_l6Plus.mono_l _ _ _ _ _) (fun _ => LeO.refl _)) (LeO.refl _)
theorem spec_l6Plus.len {k : Nat} {a0 : ByteArray} {a1 : Int} {a2 : ByteArray} : ∀ {n : Nat} {xs : List Int}, spec_l6Plus.l k a0 a1 a2 n = some xs → xs.length = n
  | 0, xs, h => by obtain rfl := Option.some.inj h; rfl
  | n + 1, xs, h => by
    obtain ⟨ys, h1, h⟩ := Option.bind_eq_some_iff.mp h
    obtain ⟨t, h2, h⟩ := Option.bind_eq_some_iff.mp h
    obtain rfl := Option.some.inj h
    have := spec_l6Plus.len h1
    simp [this]
/-- What the row holds in round i. -/
def l6cell (a0 : ByteArray) (xs : List Int) (j : Nat) : Int := if j < xs.length then xs.getD j 0 else bt a0 (j : Int)
def L6 (k : Nat) (a0 : ByteArray) (a1 : Int) (a2 : ByteArray) (w : World) (i : Nat) (xs : List Int) (wr : World) : Prop :=
  spec_l6Plus.l k a0 a1 a2 i = some xs ∧ Below w.heap.size w wr ∧ w.heap.size < wr.heap.size ∧ (∀ j, j < a0.size → wr.cell? ⟨w.heap.size, j, none⟩ = some (.int .u8 (l6cell a0 xs j)) ∧ wr.frozen? ⟨w.heap.size, j, none⟩ = false)
theorem L6_start (k : Nat) (a0 : ByteArray) (a1 : Int) (a2 : ByteArray) (w : World) : L6 k a0 a1 a2 w 0 [] (Lib.bytesWorld w 5 a0) := by
  refine ⟨rfl, bytes_below (Below.refl _ _) (Nat.le_refl _) _ _, by rw [Lib.bytesWorld_size]; omega, fun j hj => ⟨?_, ?_⟩⟩
  · rw [Lib.bytesWorld_cell w 5 a0 j hj]
    simp only [l6cell, List.length_nil, Nat.not_lt_zero, if_false]
    rw [← bt_at a0 (j : Int) (by simpa using hj)]
    have hj' : j < a0.data.toList.length := by rw [data_length]; exact hj
    simp only [List.getD_eq_getElem?_getD, List.getElem?_eq_getElem hj']
    simp only [Option.getD_some, Int.toNat_natCast]
    rfl
  · have hz : a0.size ≤ (Lib.bytesCells w 5 a0).size := by
      unfold Lib.bytesCells
      rw [Array.size_append, Array.size_map]
      exact Nat.le_add_right _ _
    simp only [World.frozen?, Lib.bytesWorld_at_new]
    rw [show decide ((Lib.bytesCells w 5 a0).size ≤ j) = false from decide_eq_false (by omega), Bool.false_and]
theorem L6_drewN {k : Nat} {a0 : ByteArray} {a1 : Int} {a2 : ByteArray} {w wr : World} {i : Nat} {xs : List Int} (h : L6 k a0 a1 a2 w i xs wr) (n : Nat) : L6 k a0 a1 a2 w i xs (wr.drewN n) :=
  ⟨h.1, pw_below_drewN h.2.1 n, h.2.2.1, h.2.2.2⟩
theorem L6_drew {k : Nat} {a0 : ByteArray} {a1 : Int} {a2 : ByteArray} {w wr : World} {i : Nat} {xs : List Int} (h : L6 k a0 a1 a2 w i xs wr) : L6 k a0 a1 a2 w i xs wr.drew :=
  ⟨h.1, below_drew1 h.2.1, h.2.2.1, h.2.2.2⟩
theorem L6_step {k : Nat} {a0 : ByteArray} {a1 : Int} {a2 : ByteArray} {w wr : World} {i : Nat} {xs : List Int} {t : Int} (h : L6 k a0 a1 a2 w i xs wr) (hi : i < a0.size) (ht : spec_l1Times.f k a1 (bt a2 (i : Int)) = some t) :
    L6 k a0 a1 a2 w (i + 1) (xs ++ [bits .xor .u8 (bt a0 (i : Int)) t]) (wr.setCell ⟨w.heap.size, i, none⟩ (.int .u8 (bits .xor .u8 (bt a0 (i : Int)) t))) := by
  obtain ⟨h1, h2, h3, h4⟩ := h
  have hl := spec_l6Plus.len h1
  refine ⟨?_, below_set h2 (Nat.le_refl _), by simpa using h3, fun j hj => ⟨?_, ?_⟩⟩
  · show (spec_l6Plus.l k a0 a1 a2 i).bind _ = _
    rw [h1]; simp only [Option.bind_some]; rw [ht]; rfl
  · by_cases e : j = i
    · subst e
      rw [World.cell?_setCell_same _ _ _ (h4 j hj).1]
      unfold l6cell
      rw [if_pos (by simp [hl])]
      simp [List.getD_eq_getElem?_getD, hl]
    · rw [World.cell?_setCell_other _ _ _ _ (by intro e2; injection e2 with _ e2 _; exact e e2.symm), (h4 j hj).1]
      unfold l6cell
      by_cases c : j < i
      · rw [if_pos (by omega), if_pos (by simp; omega), List.getD_eq_getElem?_getD, List.getD_eq_getElem?_getD, List.getElem?_append_left (by omega)]
      · rw [if_neg (by omega), if_neg (by simp; omega)]
  · rw [World.frozen?_setCell]
    exact (h4 j hj).2
theorem l6at {k : Nat} {a0 : ByteArray} {a1 : Int} {a2 : ByteArray} : ∀ {n : Nat} {xs : List Int}, spec_l6Plus.l k a0 a1 a2 n = some xs → ∀ i, i < n → ∃ t, spec_l1Times.f k a1 (bt a2 (i : Int)) = some t
  | 0, xs, _, i, hi => absurd hi (Nat.not_lt_zero _)
  | n + 1, xs, h, i, hi => by
    obtain ⟨ys, h1, h⟩ := Option.bind_eq_some_iff.mp h
    obtain ⟨t, h2, h⟩ := Option.bind_eq_some_iff.mp h
    by_cases e : i = n
    · exact e ▸ ⟨t, h2⟩
    · exact l6at h1 i (by omega)
set_option maxHeartbeats 4000000 in
set_option maxRecDepth 100000 in
theorem spec_l6Plus.calls (k : Nat) (a0 : ByteArray) (a1 : Int) (a2 : ByteArray) (r : ByteArray) (w : World) (h : spec_l6Plus.f k a0 a1 a2 = some r) :
    Calls Try.prog 72 #[.string a0, .int .u8 a1, .string a2] w fun e w' => e = .returned (.string r) ∧ Below w.heap.size w w' := by
  unfold spec_l6Plus.f at h
  by_cases hs : a0.size ≤ 140737488355328 ∧ a0.size ≤ a2.size
  · rw [if_pos hs] at h
    replace h := Option.bind_eq_some_iff.mp h
    obtain ⟨x, hx, h⟩ := h
    obtain rfl := Option.some.inj h
    clear h
    have HX := Aside0.mk hx
    have HS := Aside0.mk hs
    clear hx hs
    have kb0 := fun W => print_bytes (P := Try.prog) 9 76 5 Try.underlying9 Try.underlying76 Try.underlying5 a0 W
    go_enter Try.func72, Try.ntmps72
    go_wp2
    have HL := Aside0.mk (L6_start k a0 a1 a2 w)
    clear kb0
    have hcap := Aside0.mk (bytes_cap w a0.size 5)
    generalize Lib.bytesWorld w 5 a0 = W0 at HL ⊢
    generalize grownCap w a0.size 0 5 = cap at hcap ⊢
    go_loopw [8, 13] (fun _ v13 wr => ∃ i : Nat, i ≤ a0.size ∧ v13 = .int .i64 i ∧ Aside0 (∃ xs, L6 k a0 a1 a2 w i xs wr)) (fun _ v13 _ => a0.size - (intOf v13).toNat)
    case atStart => exact ⟨0, Nat.zero_le _, rfl, ⟨⟨_, HL.out⟩⟩⟩
    case round =>
      obtain ⟨i, hi, rfl, HR⟩ := hrel
      obtain ⟨xs, hR⟩ := HR.out
      clear HR
      by_cases hlt : i < a0.size
      · obtain ⟨t, ht⟩ := l6at HX.out i hlt
        have hc := (hR.2.2.2 i hlt).1
        have hf := (hR.2.2.2 i hlt).2
        have hl := spec_l6Plus.len hR.1
        rw [show l6cell a0 xs i = bt a0 (i : Int) by unfold l6cell; rw [if_neg (by omega)]] at hc
        have HR := Aside0.mk hR
        have HT := Aside0.mk ht
        clear hR ht hl
        have hz1 : (0 : Int) ≤ (i : Int) := by omega
        have hz2 : (i : Int) < (a0.size : Int) := by omega
        have hz3 : (i : Int) < (a2.size : Int) := by have := HS.out.2; omega
        have hz4 : i < a2.size := by have := HS.out.2; omega
        have hbt : ∀ h : i < a2.size, ((a2[i]'h).toNat : Int) = bt a2 (i : Int) := fun h => bt_at a2 (i : Int) h
        have hz5 : (i : Int) ≤ 140737488355328 := by have := HS.out.1; omega
        go_wp2
        refine start_ (n := 12) (S := fun w' => w'.cell? ⟨w.heap.size, i, none⟩ = some (.int .u8 (bt a0 (i : Int)))) (ds := [11]) #[false, false, false, false, false, false, false, false, false, false, false, false] (by kernel_rfl) rfl rfl hc (fun hHeld => ?_)
        generalize hq : wr.drew = wd at hHeld ⊢
        replace HR : Aside0 (L6 k a0 a1 a2 w i xs wd) := ⟨by rw [← hq]; exact L6_drew HR.out⟩
        clear hq hc hf
        refine pure_ (i := 0) (N := some 16) (v := ?_) (a' := ?_) #[true, false, false, false, false, false, false, false, false, false, false, false] rfl rfl (by kernel_rfl) (fun _ _ _ h => h) (Or.inl ⟨by rfl, ?_⟩) ?_ ?_
        rotate_left
        · intro w'
          go_simp
          with_reducible rfl
        rotate_left
        · simp only [Act.put, List.setIfInBounds_toArray, List.set_cons_zero, List.set_cons_succ, i64_w, i32_w]
          rfl
        refine pure_ (i := 1) (N := some 17) (v := ?_) (a' := ?_) #[true, true, false, false, false, false, false, false, false, false, false, false] rfl rfl (by kernel_rfl) (fun _ _ _ h => h) (Or.inl ⟨by rfl, ?_⟩) ?_ ?_
        rotate_left
        · intro w'
          go_simp
          with_reducible rfl
        rotate_left
        · simp only [Act.put, List.setIfInBounds_toArray, List.set_cons_zero, List.set_cons_succ, i64_w, i32_w]
          rfl
        refine pure_ (i := 2) (N := some 18) (v := ?_) (a' := ?_) #[true, true, true, false, false, false, false, false, false, false, false, false] rfl rfl (by kernel_rfl) (fun _ _ _ h => h) (Or.inl ⟨by rfl, ?_⟩) ?_ ?_
        rotate_left
        · intro w'
          go_simp
          with_reducible rfl
        rotate_left
        · simp only [Act.put, List.setIfInBounds_toArray, List.set_cons_zero, List.set_cons_succ, i64_w, i32_w]
          rfl
        refine pure_ (i := 4) (N := some 20) (v := ?_) (a' := ?_) #[true, true, true, false, true, false, false, false, false, false, false, false] rfl rfl (by kernel_rfl) (fun _ _ _ h => h) (Or.inl ⟨by rfl, ?_⟩) ?_ ?_
        rotate_left
        · intro w'
          go_simp
          with_reducible rfl
        rotate_left
        · simp only [Act.put, List.setIfInBounds_toArray, List.set_cons_zero, List.set_cons_succ, i64_w, i32_w]
          rfl
        refine pure_ (i := 5) (N := some 21) (v := ?_) (a' := ?_) #[true, true, true, false, true, true, false, false, false, false, false, false] rfl rfl (by kernel_rfl) (fun _ _ _ h => h) (Or.inl ⟨by rfl, ?_⟩) ?_ ?_
        rotate_left
        · intro w'
          go_simp
          with_reducible rfl
        rotate_left
        · simp only [Act.put, List.setIfInBounds_toArray, List.set_cons_zero, List.set_cons_succ, i64_w, i32_w]
          rfl
        refine pure_ (i := 6) (N := some 22) (v := ?_) (a' := ?_) #[true, true, true, false, true, true, true, false, false, false, false, false] rfl rfl (by kernel_rfl) (fun _ _ _ h => h) (Or.inl ⟨by rfl, ?_⟩) ?_ ?_
        rotate_left
        · intro w'
          go_simp
          with_reducible rfl
        rotate_left
        · simp only [Act.put, List.setIfInBounds_toArray, List.set_cons_zero, List.set_cons_succ, i64_w, i32_w]
          rfl
        refine take_ (i := 3) (N := some 19) (v := ?_) (a' := ?_) #[true, true, true, true, true, true, true, false, false, false, false, false] rfl rfl (by kernel_rfl) (fun _ _ _ h => h) (Or.inl ⟨by rfl, ?_⟩) hHeld ?_ ?_
        rotate_left
        · rintro w' s0
          go_simp
          with_reducible rfl
        rotate_left
        · simp only [Act.put, List.setIfInBounds_toArray, List.set_cons_zero, List.set_cons_succ, i64_w, i32_w]
          rfl
        refine take_ (i := 7) (N := some 23) (v := ?_) (a' := ?_) #[true, true, true, true, true, true, true, true, false, false, false, false] rfl rfl (by kernel_rfl) (fun _ _ _ h => h) (Or.inl ⟨by rfl, ?_⟩) hHeld ?_ ?_
        rotate_left
        · rintro w' s0
          go_simp
          with_reducible rfl
        rotate_left
        · simp only [Act.put, List.setIfInBounds_toArray, List.set_cons_zero, List.set_cons_succ, i64_w, i32_w]
          rfl
        refine one_ (i := 8) (N := some 24) #[true, true, true, true, true, true, true, true, true, false, false, false] rfl rfl (by kernel_rfl) (by decide) (fun K hK => ?_)
        refine goes_ Try.func130 (by kernel_rfl) rfl #[.int .u8 a1, .int .u8 (bt a2 (i : Int))] (by rfl) rfl rfl (by (try simp only [List.map_toArray, List.map_cons, List.map_nil]); first | done | rfl | (simp only [List.length_drop, List.length_take]; rfl)) ?_
        with_reducible refine (spec_l1Times.calls k a1 (bt a2 (i : Int)) t _ HT.out).mono ?_
        rintro e w' ⟨rfl, ⟨nd, rfl⟩⟩
        refine ⟨_, rfl, ?_⟩
        generalize hq : wd.drewN nd = we
        replace HR : Aside0 (L6 k a0 a1 a2 w i xs we) := ⟨by rw [← hq]; exact L6_drewN HR.out nd⟩
        clear hq
        have hcf := HR.out.2.2.2 i hlt
        rw [show l6cell a0 xs i = bt a0 (i : Int) by have hl := spec_l6Plus.len HR.out.1; unfold l6cell; rw [if_neg (by omega)]] at hcf
        obtain ⟨hc, hf⟩ := hcf
        refine hK.out _ _ hc (fun hHeld => ?_)
        clear hK K
        refine norm_ (a' := ?_) ?_ ?_
        rotate_left
        · show Act.put _ (some 24) _ = _
          simp only [Act.put, List.setIfInBounds_toArray, List.set_cons_zero, List.set_cons_succ, i64_w, i32_w]
          rfl
        refine pure_ (i := 9) (N := some 25) (v := ?_) (a' := ?_) #[true, true, true, true, true, true, true, true, true, true, false, false] rfl rfl (by kernel_rfl) (fun _ _ _ h => h) (Or.inl ⟨by rfl, ?_⟩) ?_ ?_
        rotate_left
        · intro w'
          go_simp
          with_reducible rfl
        rotate_left
        · simp only [Act.put, List.setIfInBounds_toArray, List.set_cons_zero, List.set_cons_succ, i64_w, i32_w]
          rfl
        refine pure_ (i := 10) (N := some 26) (v := ?_) (a' := ?_) #[true, true, true, true, true, true, true, true, true, true, true, false] rfl rfl (by kernel_rfl) (fun _ _ _ h => h) (Or.inl ⟨by rfl, ?_⟩) ?_ ?_
        rotate_left
        · intro w'
          go_simp
          with_reducible rfl
        rotate_left
        · simp only [Act.put, List.setIfInBounds_toArray, List.set_cons_zero, List.set_cons_succ, i64_w, i32_w]
          rfl
        refine last_ (i := 11) (N := none) #[true, true, true, true, true, true, true, true, true, true, true, true] rfl rfl (by kernel_rfl) (by decide) (fun K hK => ?_)
        refine skip_ (w1 := ?_) (by rfl) rfl ?_ ?_
        rotate_left
        · go_simp
          rfl
        refine hK.out _ _ ?_
        clear hK K
        refine done_ (by kernel_rfl) ?_
        have HN := Aside0.mk (L6_step HR.out hlt HT.out)
        clear hc hf HR
        go_wp2
        go_roundw
        case rel => exact ⟨i + 1, by omega, by go_num, ⟨_, HN.out⟩⟩
        case measure => simp [intOf]; omega
      · have e : i = a0.size := by omega
        subst e
        have ex : xs = x := Option.some.inj (hR.1.symm.trans HX.out)
        subst ex
        have hl := spec_l6Plus.len hR.1
        have hrd : Kd.C (Kd.int .u8) wr (some ⟨w.heap.size, 0, none⟩) a0.size xs := by
          refine Kd.C_of_reads (enc := Value.int .u8) (d := (0 : Int)) ⟨hl, by have := HS.out.1; omega, fun _ => ⟨_, rfl, fun j hj => ?_⟩⟩
          rw [add_plain, (hR.2.2.2 j hj).1]
          unfold l6cell
          rw [if_pos (by omega)]
        have hk := fun c => Kd.C_string (P := Try.prog) (src := 76) (dst := 9) (c := c) Try.underlying76 Try.underlying5 Try.underlying9 hrd
        have HB := Aside0.mk hR.2.1
        clear hR hrd hl
        go_wp2
        go_ret
        exact ⟨rfl, HB.out⟩
  · rw [if_neg hs] at h
    cases h
end

end Go.Proofs.Ytlmcobjpmonkfaa.PFnExactChangeStripe
