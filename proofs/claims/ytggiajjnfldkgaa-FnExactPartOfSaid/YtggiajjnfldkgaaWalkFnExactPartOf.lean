/- The walk through the law FnExactPartOf, out of the contracts of what it calls. -/
import Derived.Test.YtggiajjnfldkgaaPFnExactPartOfx
import Derived.Test.YtggiajjnfldkgaaLawKit
namespace Go.Proofs.Ytggiajjnfldkgaa.PFnExactPartOf
open Go.RowKit Go.Proofs.YtggiajjnfldkgaaW.PrintWords Go.Proofs.YtggiajjnfldkgaaW.PrintLast Go.Proofs.YtggiajjnfldkgaaW.PrintMore Go.Proofs.Ytggiajjnfldkgaa.Gf Go.Proofs.Ytggiajjnfldkgaa.Kit Go.Proofs.Ytggiajjnfldkgaa.LawKit
set_option linter.unusedVariables false
set_option linter.unusedSimpArgs false
def laws_FnExactPartOf.Facts0 (l0_0 : List (List (Int))) (l1 : List (Int)) (l2 : List (Int)) : Prop := (1048576 < (l1.length : Int))
def laws_FnExactPartOf.Facts1 (l0_0 : List (List (Int))) (l1 : List (Int)) (l2 : List (Int)) : Prop := (¬ 1048576 < (l1.length : Int)) ∧ (1048576 < (l2.length : Int))
def laws_FnExactPartOf.Facts2 (l0_0 : List (List (Int))) (l1 : List (Int)) (l2 : List (Int)) : Prop := ∃ s_2 : Int, (¬ 1048576 < (l1.length : Int)) ∧ (¬ 1048576 < (l2.length : Int)) ∧ (∃ k, laws_szMatrix.f k l0_0 1048576 = some s_2) ∧ (s_2 < 0)
def laws_FnExactPartOf.Facts3 (l0_0 : List (List (Int))) (l1 : List (Int)) (l2 : List (Int)) : Prop := ∃ s_2 : Int, ∃ t_aM_0 : List (List (Int)), ∃ t_aRows_0 : List (Int), ∃ t_aColumns_0 : List (Int), ∃ r_0 : List (List (Int)), ∃ r_1 : Bool, (¬ 1048576 < (l1.length : Int)) ∧ (¬ 1048576 < (l2.length : Int)) ∧ (∃ k, laws_szMatrix.f k l0_0 1048576 = some s_2) ∧ (¬ s_2 < 0) ∧ (∃ k, laws_toMatrix.f k l0_0 = some t_aM_0) ∧ (∃ k, laws_toIntS.f k l1 = some t_aRows_0) ∧ (∃ k, laws_toIntS.f k l2 = some t_aColumns_0) ∧ (∃ k, spec_PartOf.f k t_aM_0 t_aRows_0 t_aColumns_0 = some (r_0, r_1)) ∧ (∃ k, impl_PartOf.f k t_aM_0 t_aRows_0 t_aColumns_0 = some (r_0, r_1)) ∧ (∃ k, laws_eqMatrix.f k r_0 r_0 = some true) ∧ (∃ k, laws_eqMatrix.f k t_aM_0 t_aM_0 = some true) ∧ (∃ k, laws_eqIntS.f k t_aRows_0 t_aRows_0 = some true) ∧ (∃ k, laws_eqIntS.f k t_aColumns_0 t_aColumns_0 = some true) ∧ (∃ k, laws_heldMatrix.f k (markSS 1 r_0) 1 = some (1 + ((totSS r_0 : Nat) : Int))) ∧ (∀ (l : List Int) (a : Int), 0 ≤ a → a + l.length < 4611686018427387904 → ∃ k, laws_markByteS.f k l a = some (a + ((l.length : Nat) : Int), markB a l.length)) ∧ (∀ (l : List Int) (a : Int), 0 ≤ a → a + l.length < 4611686018427387904 → ∃ k, laws_markIntS.f k l a = some (a + ((l.length : Nat) : Int), markI a l.length)) ∧ (totSS t_aM_0 < 1152921504606846976 ∧ t_aM_0.length < 1152921504606846976) ∧ (t_aRows_0.length < 1152921504606846976) ∧ (t_aColumns_0.length < 1152921504606846976) ∧ (totSS r_0 < 1152921504606846976 ∧ r_0.length < 1152921504606846976)
def laws_FnExactPartOf.Facts (l0_0 : List (List (Int))) (l1 : List (Int)) (l2 : List (Int)) : Prop := laws_FnExactPartOf.Facts0 l0_0 l1 l2 ∨ laws_FnExactPartOf.Facts1 l0_0 l1 l2 ∨ laws_FnExactPartOf.Facts2 l0_0 l1 l2 ∨ laws_FnExactPartOf.Facts3 l0_0 l1 l2
set_option maxHeartbeats 16000000 in
set_option maxRecDepth 100000 in
theorem laws_FnExactPartOf.calls (A0_0 : Option Addr) (c0_0 : Nat) (l0_0 : List (List (Int))) (A1 : Option Addr) (c1 : Nat) (l1 : List (Int)) (A2 : Option Addr) (c2 : Nat) (l2 : List (Int)) (w : World) (hr0_0 : Kd.C (Kd.slice 5 (Kd.int .u8)) w A0_0 l0_0.length l0_0) (hc0_0 : l0_0.length ≤ c0_0) (hr1 : Kd.C (Kd.int .i64) w A1 l1.length l1) (hc1 : l1.length ≤ c1) (hr2 : Kd.C (Kd.int .i64) w A2 l2.length l2) (hc2 : l2.length ≤ c2) (h : laws_FnExactPartOf.Facts l0_0 l1 l2) :
    Calls Try.prog 14 #[.agg #[.slice A0_0 l0_0.length c0_0], .slice A1 l1.length c1, .slice A2 l2.length c2] w fun e w' => e = .returned (.bool true) ∧ Below w.heap.size w w' := by
  have HR0_0 := Aside0.mk hr0_0
  have HC0_0 := Aside0.mk hc0_0
  clear hr0_0 hc0_0
  have HR1 := Aside0.mk hr1
  have HC1 := Aside0.mk hc1
  clear hr1 hc1
  have HR2 := Aside0.mk hr2
  have HC2 := Aside0.mk hc2
  clear hr2 hc2
  have HB := Aside0.mk (Below.refl w.heap.size w)
  rcases h with h | h | h | h
  · have G1 : 1048576 < (l1.length : Int) := h
    replace G1 := Aside0.mk G1
    go_enter Try.func14, Try.ntmps14
    have hg1 := decide_eq_true (show 1048576 < (l1.length : Int) by have := G1.out; omega)
    have hg1b : decide (1048576 < l1.length) = true := decide_eq_true (by have := G1.out; omega)
    go_wp2
    go_ret
    exact ⟨rfl, by repeat (first | exact HB.out | apply below_alloc | apply below_drew1 | apply pw_below_drewN)⟩
  · obtain ⟨G1, G2⟩ := h
    replace G1 := Aside0.mk G1
    replace G2 := Aside0.mk G2
    go_enter Try.func14, Try.ntmps14
    have hg1 := decide_eq_false (show ¬ (1048576 < (l1.length : Int)) by have := G1.out; omega)
    have hg1b : decide (1048576 < l1.length) = false := decide_eq_false (by have := G1.out; omega)
    have hg2 := decide_eq_true (show 1048576 < (l2.length : Int) by have := G2.out; omega)
    have hg2b : decide (1048576 < l2.length) = true := decide_eq_true (by have := G2.out; omega)
    go_wp2
    go_ret
    exact ⟨rfl, by repeat (first | exact HB.out | apply below_alloc | apply below_drew1 | apply pw_below_drewN)⟩
  · obtain ⟨s_2, G1, G2, E0, G3⟩ := h
    replace G1 := Aside0.mk G1
    replace G2 := Aside0.mk G2
    replace E0 := Aside0.mk E0
    replace G3 := Aside0.mk G3
    go_enter Try.func14, Try.ntmps14
    have hg1 := decide_eq_false (show ¬ (1048576 < (l1.length : Int)) by have := G1.out; omega)
    have hg1b : decide (1048576 < l1.length) = false := decide_eq_false (by have := G1.out; omega)
    have hg2 := decide_eq_false (show ¬ (1048576 < (l2.length : Int)) by have := G2.out; omega)
    have hg2b : decide (1048576 < l2.length) = false := decide_eq_false (by have := G2.out; omega)
    go_wp2_with fail
    refine calls_named fun W1 hW => ?_
    have hs : Below w.heap.size w W1 := by rw [hW]; repeat (first | exact Below.refl _ _ | apply below_alloc | apply below_drew1 | apply pw_below_drewN)
    have hcaM_0 : W1.cell? ⟨w.heap.size, 0, none⟩ = some (.slice A0_0 l0_0.length c0_0) := by rw [hW]; go_simp
    have hlaM : w.heap.size < W1.heap.size := by rw [hW]; simp <;> omega
    have zlaM := Aside0.mk hlaM
    clear hW
    replace HB := Aside0.mk (below_on HB.out HB.out.size hs)
    have zs1 := Aside0.mk hs.size
    clear hs
    obtain ⟨kk1, e_1⟩ := E0.out
    replace e_1 := Aside0.mk e_1
    refine (laws_szMatrix.calls kk1 _ _ l0_0 1048576 s_2 W1 (Kd.C_below HR0_0.out HB.out) HC0_0.out e_1.out).mono ?_
    rintro e w1 ⟨rfl, hb⟩
    clear e_1
    have zc1 := Aside0.mk hb.size
    replace hcaM_0 := pw_cell_below hb hcaM_0
    replace hlaM : w.heap.size < w1.heap.size := Nat.lt_of_lt_of_le hlaM hb.size
    replace HB := Aside0.mk (below_on HB.out HB.out.size hb)
    clear hb
    have hg3 := decide_eq_true (show s_2 < 0 by have := G3.out; omega)
    go_wp2
    go_ret
    exact ⟨rfl, by repeat (first | exact HB.out | apply below_alloc | apply below_drew1 | apply pw_below_drewN)⟩
  · obtain ⟨s_2, t_aM_0, t_aRows_0, t_aColumns_0, r_0, r_1, G1, G2, E0, G3, E2, E4, E6, E8, E9, E10, E11, E12, E13, E14, HMB, HMI, HT0, HT1, HT2, HT3⟩ := h
    replace G1 := Aside0.mk G1
    replace G2 := Aside0.mk G2
    replace E0 := Aside0.mk E0
    replace G3 := Aside0.mk G3
    replace E2 := Aside0.mk E2
    replace E4 := Aside0.mk E4
    replace E6 := Aside0.mk E6
    replace E8 := Aside0.mk E8
    replace E9 := Aside0.mk E9
    replace E10 := Aside0.mk E10
    replace E11 := Aside0.mk E11
    replace E12 := Aside0.mk E12
    replace E13 := Aside0.mk E13
    replace E14 := Aside0.mk E14
    replace HMB := Aside0.mk HMB
    replace HMI := Aside0.mk HMI
    replace HT0 := Aside0.mk HT0
    replace HT1 := Aside0.mk HT1
    replace HT2 := Aside0.mk HT2
    replace HT3 := Aside0.mk HT3
    go_enter Try.func14, Try.ntmps14
    have hg1 := decide_eq_false (show ¬ (1048576 < (l1.length : Int)) by have := G1.out; omega)
    have hg1b : decide (1048576 < l1.length) = false := decide_eq_false (by have := G1.out; omega)
    have hg2 := decide_eq_false (show ¬ (1048576 < (l2.length : Int)) by have := G2.out; omega)
    have hg2b : decide (1048576 < l2.length) = false := decide_eq_false (by have := G2.out; omega)
    go_wp2_with fail
    refine calls_named fun W1 hW => ?_
    have hs : Below w.heap.size w W1 := by rw [hW]; repeat (first | exact Below.refl _ _ | apply below_alloc | apply below_drew1 | apply pw_below_drewN)
    have hcaM_0 : W1.cell? ⟨w.heap.size, 0, none⟩ = some (.slice A0_0 l0_0.length c0_0) := by rw [hW]; go_simp
    have hlaM : w.heap.size < W1.heap.size := by rw [hW]; simp <;> omega
    have zlaM := Aside0.mk hlaM
    clear hW
    replace HB := Aside0.mk (below_on HB.out HB.out.size hs)
    have zs1 := Aside0.mk hs.size
    clear hs
    obtain ⟨kk1, e_1⟩ := E0.out
    replace e_1 := Aside0.mk e_1
    refine (laws_szMatrix.calls kk1 _ _ l0_0 1048576 s_2 W1 (Kd.C_below HR0_0.out HB.out) HC0_0.out e_1.out).mono ?_
    rintro e w1 ⟨rfl, hb⟩
    clear e_1
    have zc1 := Aside0.mk hb.size
    replace hcaM_0 := pw_cell_below hb hcaM_0
    replace hlaM : w.heap.size < w1.heap.size := Nat.lt_of_lt_of_le hlaM hb.size
    replace HB := Aside0.mk (below_on HB.out HB.out.size hb)
    clear hb
    have hg3 := decide_eq_false (show ¬ (s_2 < 0) by have := G3.out; omega)
    go_wp2_with fail
    refine calls_named fun W2 hW => ?_
    have hs : Below w1.heap.size w1 W2 := by rw [hW]; repeat (first | exact Below.refl _ _ | apply below_alloc | apply below_drew1 | apply pw_below_drewN)
    clear hW
    replace hcaM_0 := pw_cell_below hs hcaM_0
    replace hlaM : w.heap.size < W2.heap.size := Nat.lt_of_lt_of_le hlaM hs.size
    replace HB := Aside0.mk (below_on HB.out HB.out.size hs)
    have zs2 := Aside0.mk hs.size
    clear hs
    obtain ⟨kk2, e_2⟩ := E2.out
    replace e_2 := Aside0.mk e_2
    refine (laws_toMatrix.calls kk2 _ _ l0_0 t_aM_0 W2 (Kd.C_below HR0_0.out HB.out) HC0_0.out e_2.out).mono ?_
    rintro e w2 ⟨v2_0, rfl, h2_0, hb⟩
    clear e_2
    have HO2_0 := OwnS.new (b := w.heap.size) h2_0 HB.out.size
    clear h2_0
    have zc2 := Aside0.mk hb.size
    replace hcaM_0 := pw_cell_below hb hcaM_0
    replace hlaM : w.heap.size < w2.heap.size := Nat.lt_of_lt_of_le hlaM hb.size
    replace HB := Aside0.mk (below_on HB.out HB.out.size hb)
    clear hb
    obtain ⟨A2_0, c2_0, rfl⟩ := HO2_0.slice
    go_wp2_with fail
    refine calls_named fun W3 hW => ?_
    have hs : Below w2.heap.size w2 W3 := by rw [hW]; repeat (first | exact Below.refl _ _ | apply below_alloc | apply below_drew1 | apply pw_below_drewN)
    clear hW
    replace hcaM_0 := pw_cell_below hs hcaM_0
    replace HO2_0 := HO2_0.below hs
    replace hlaM : w.heap.size < W3.heap.size := Nat.lt_of_lt_of_le hlaM hs.size
    replace HB := Aside0.mk (below_on HB.out HB.out.size hs)
    have zs3 := Aside0.mk hs.size
    clear hs
    obtain ⟨kk3, e_3⟩ := E4.out
    replace e_3 := Aside0.mk e_3
    refine (laws_toIntS.calls kk3 _ _ l1 t_aRows_0 W3 (Kd.C_below HR1.out HB.out) HC1.out e_3.out).mono ?_
    rintro e w3 ⟨v3_0, rfl, h3_0, hb⟩
    clear e_3
    have HO3_0 := OwnR.new (b := w.heap.size) h3_0 HB.out.size
    clear h3_0
    have zc3 := Aside0.mk hb.size
    replace hcaM_0 := pw_cell_below hb hcaM_0
    replace HO2_0 := HO2_0.below hb
    replace hlaM : w.heap.size < w3.heap.size := Nat.lt_of_lt_of_le hlaM hb.size
    replace HB := Aside0.mk (below_on HB.out HB.out.size hb)
    clear hb
    obtain ⟨A3_0, c3_0, rfl⟩ := HO3_0.slice
    go_wp2_with fail
    refine calls_named fun W4 hW => ?_
    have hs : Below w3.heap.size w3 W4 := by rw [hW]; repeat (first | exact Below.refl _ _ | apply below_alloc | apply below_drew1 | apply pw_below_drewN)
    clear hW
    replace hcaM_0 := pw_cell_below hs hcaM_0
    replace HO2_0 := HO2_0.below hs
    replace HO3_0 := HO3_0.below hs
    replace hlaM : w.heap.size < W4.heap.size := Nat.lt_of_lt_of_le hlaM hs.size
    replace HB := Aside0.mk (below_on HB.out HB.out.size hs)
    have zs4 := Aside0.mk hs.size
    clear hs
    obtain ⟨kk4, e_4⟩ := E6.out
    replace e_4 := Aside0.mk e_4
    refine (laws_toIntS.calls kk4 _ _ l2 t_aColumns_0 W4 (Kd.C_below HR2.out HB.out) HC2.out e_4.out).mono ?_
    rintro e w4 ⟨v4_0, rfl, h4_0, hb⟩
    clear e_4
    have HO4_0 := OwnR.new (b := w.heap.size) h4_0 HB.out.size
    clear h4_0
    have zc4 := Aside0.mk hb.size
    replace hcaM_0 := pw_cell_below hb hcaM_0
    replace HO2_0 := HO2_0.below hb
    replace HO3_0 := HO3_0.below hb
    replace hlaM : w.heap.size < w4.heap.size := Nat.lt_of_lt_of_le hlaM hb.size
    replace HB := Aside0.mk (below_on HB.out HB.out.size hb)
    clear hb
    obtain ⟨A4_0, c4_0, rfl⟩ := HO4_0.slice
    go_wp2_with fail
    refine calls_named fun W5 hW => ?_
    have hs : Below w4.heap.size w4 W5 := by rw [hW]; repeat (first | exact Below.refl _ _ | apply below_alloc | apply below_drew1 | apply pw_below_drewN)
    clear hW
    replace hcaM_0 := pw_cell_below hs hcaM_0
    replace HO2_0 := HO2_0.below hs
    replace HO3_0 := HO3_0.below hs
    replace HO4_0 := HO4_0.below hs
    replace hlaM : w.heap.size < W5.heap.size := Nat.lt_of_lt_of_le hlaM hs.size
    replace HB := Aside0.mk (below_on HB.out HB.out.size hs)
    have zs5 := Aside0.mk hs.size
    clear hs
    obtain ⟨kk5, e_5⟩ := E8.out
    replace e_5 := Aside0.mk e_5
    refine (spec_PartOf.calls kk5 _ _ t_aM_0 _ _ t_aRows_0 _ _ t_aColumns_0 r_0 r_1 W5 HO2_0.C HO2_0.cap HO3_0.C HO3_0.cap HO4_0.C HO4_0.cap e_5.out).mono ?_
    rintro e w5 ⟨v5_0, rfl, h5_0, hb⟩
    clear e_5
    have HO5_0 := OwnS.new (b := w.heap.size) h5_0 HB.out.size
    clear h5_0
    have zc5 := Aside0.mk hb.size
    replace hcaM_0 := pw_cell_below hb hcaM_0
    replace HO2_0 := HO2_0.below hb
    replace HO3_0 := HO3_0.below hb
    replace HO4_0 := HO4_0.below hb
    replace hlaM : w.heap.size < w5.heap.size := Nat.lt_of_lt_of_le hlaM hb.size
    replace HB := Aside0.mk (below_on HB.out HB.out.size hb)
    clear hb
    obtain ⟨A5_0, c5_0, rfl⟩ := HO5_0.slice
    go_wp2_with fail
    refine calls_named fun W6 hW => ?_
    have hs : Below w5.heap.size w5 W6 := by rw [hW]; repeat (first | exact Below.refl _ _ | apply below_alloc | apply below_drew1 | apply pw_below_drewN)
    have hcw0_0 : W6.cell? ⟨w5.heap.size, 0, none⟩ = some (.slice A5_0 r_0.length c5_0) := by rw [hW]; go_simp
    have hlw0 : w5.heap.size < W6.heap.size := by rw [hW]; simp <;> omega
    have zlw0 := Aside0.mk hlw0
    clear hW
    replace hcaM_0 := pw_cell_below hs hcaM_0
    replace HO2_0 := HO2_0.below hs
    replace HO3_0 := HO3_0.below hs
    replace HO4_0 := HO4_0.below hs
    replace HO5_0 := HO5_0.below hs
    replace hlaM : w.heap.size < W6.heap.size := Nat.lt_of_lt_of_le hlaM hs.size
    replace HB := Aside0.mk (below_on HB.out HB.out.size hs)
    have zs6 := Aside0.mk hs.size
    clear hs
    obtain ⟨kk6, e_6⟩ := E2.out
    replace e_6 := Aside0.mk e_6
    refine (laws_toMatrix.calls kk6 _ _ l0_0 t_aM_0 W6 (Kd.C_below HR0_0.out HB.out) HC0_0.out e_6.out).mono ?_
    rintro e w6 ⟨v6_0, rfl, h6_0, hb⟩
    clear e_6
    have HO6_0 := OwnS.new (b := w.heap.size) h6_0 HB.out.size
    clear h6_0
    have zc6 := Aside0.mk hb.size
    replace hcaM_0 := pw_cell_below hb hcaM_0
    replace hcw0_0 := pw_cell_below hb hcw0_0
    replace HO2_0 := HO2_0.below hb
    replace HO3_0 := HO3_0.below hb
    replace HO4_0 := HO4_0.below hb
    replace HO5_0 := HO5_0.below hb
    replace hlaM : w.heap.size < w6.heap.size := Nat.lt_of_lt_of_le hlaM hb.size
    replace hlw0 : w5.heap.size < w6.heap.size := Nat.lt_of_lt_of_le hlw0 hb.size
    replace HB := Aside0.mk (below_on HB.out HB.out.size hb)
    clear hb
    obtain ⟨A6_0, c6_0, rfl⟩ := HO6_0.slice
    go_wp2_with fail
    refine calls_named fun W7 hW => ?_
    have hs : Below w6.heap.size w6 W7 := by rw [hW]; repeat (first | exact Below.refl _ _ | apply below_alloc | apply below_drew1 | apply pw_below_drewN)
    have hcx0_0 : W7.cell? ⟨w6.heap.size, 0, none⟩ = some (.slice A6_0 t_aM_0.length c6_0) := by rw [hW]; go_simp
    have hlx0 : w6.heap.size < W7.heap.size := by rw [hW]; simp <;> omega
    have zlx0 := Aside0.mk hlx0
    clear hW
    replace hcaM_0 := pw_cell_below hs hcaM_0
    replace hcw0_0 := pw_cell_below hs hcw0_0
    replace HO2_0 := HO2_0.below hs
    replace HO3_0 := HO3_0.below hs
    replace HO4_0 := HO4_0.below hs
    replace HO5_0 := HO5_0.below hs
    replace HO6_0 := HO6_0.below hs
    replace hlaM : w.heap.size < W7.heap.size := Nat.lt_of_lt_of_le hlaM hs.size
    replace hlw0 : w5.heap.size < W7.heap.size := Nat.lt_of_lt_of_le hlw0 hs.size
    replace HB := Aside0.mk (below_on HB.out HB.out.size hs)
    have zs7 := Aside0.mk hs.size
    clear hs
    obtain ⟨kk7, e_7⟩ := E4.out
    replace e_7 := Aside0.mk e_7
    refine (laws_toIntS.calls kk7 _ _ l1 t_aRows_0 W7 (Kd.C_below HR1.out HB.out) HC1.out e_7.out).mono ?_
    rintro e w7 ⟨v7_0, rfl, h7_0, hb⟩
    clear e_7
    have HO7_0 := OwnR.new (b := w.heap.size) h7_0 HB.out.size
    clear h7_0
    have zc7 := Aside0.mk hb.size
    replace hcaM_0 := pw_cell_below hb hcaM_0
    replace hcw0_0 := pw_cell_below hb hcw0_0
    replace hcx0_0 := pw_cell_below hb hcx0_0
    replace HO2_0 := HO2_0.below hb
    replace HO3_0 := HO3_0.below hb
    replace HO4_0 := HO4_0.below hb
    replace HO5_0 := HO5_0.below hb
    replace HO6_0 := HO6_0.below hb
    replace hlaM : w.heap.size < w7.heap.size := Nat.lt_of_lt_of_le hlaM hb.size
    replace hlw0 : w5.heap.size < w7.heap.size := Nat.lt_of_lt_of_le hlw0 hb.size
    replace hlx0 : w6.heap.size < w7.heap.size := Nat.lt_of_lt_of_le hlx0 hb.size
    replace HB := Aside0.mk (below_on HB.out HB.out.size hb)
    clear hb
    obtain ⟨A7_0, c7_0, rfl⟩ := HO7_0.slice
    go_wp2_with fail
    refine calls_named fun W8 hW => ?_
    have hs : Below w7.heap.size w7 W8 := by rw [hW]; repeat (first | exact Below.refl _ _ | apply below_alloc | apply below_drew1 | apply pw_below_drewN)
    clear hW
    replace hcaM_0 := pw_cell_below hs hcaM_0
    replace hcw0_0 := pw_cell_below hs hcw0_0
    replace hcx0_0 := pw_cell_below hs hcx0_0
    replace HO2_0 := HO2_0.below hs
    replace HO3_0 := HO3_0.below hs
    replace HO4_0 := HO4_0.below hs
    replace HO5_0 := HO5_0.below hs
    replace HO6_0 := HO6_0.below hs
    replace HO7_0 := HO7_0.below hs
    replace hlaM : w.heap.size < W8.heap.size := Nat.lt_of_lt_of_le hlaM hs.size
    replace hlw0 : w5.heap.size < W8.heap.size := Nat.lt_of_lt_of_le hlw0 hs.size
    replace hlx0 : w6.heap.size < W8.heap.size := Nat.lt_of_lt_of_le hlx0 hs.size
    replace HB := Aside0.mk (below_on HB.out HB.out.size hs)
    have zs8 := Aside0.mk hs.size
    clear hs
    obtain ⟨kk8, e_8⟩ := E6.out
    replace e_8 := Aside0.mk e_8
    refine (laws_toIntS.calls kk8 _ _ l2 t_aColumns_0 W8 (Kd.C_below HR2.out HB.out) HC2.out e_8.out).mono ?_
    rintro e w8 ⟨v8_0, rfl, h8_0, hb⟩
    clear e_8
    have HO8_0 := OwnR.new (b := w.heap.size) h8_0 HB.out.size
    clear h8_0
    have zc8 := Aside0.mk hb.size
    replace hcaM_0 := pw_cell_below hb hcaM_0
    replace hcw0_0 := pw_cell_below hb hcw0_0
    replace hcx0_0 := pw_cell_below hb hcx0_0
    replace HO2_0 := HO2_0.below hb
    replace HO3_0 := HO3_0.below hb
    replace HO4_0 := HO4_0.below hb
    replace HO5_0 := HO5_0.below hb
    replace HO6_0 := HO6_0.below hb
    replace HO7_0 := HO7_0.below hb
    replace hlaM : w.heap.size < w8.heap.size := Nat.lt_of_lt_of_le hlaM hb.size
    replace hlw0 : w5.heap.size < w8.heap.size := Nat.lt_of_lt_of_le hlw0 hb.size
    replace hlx0 : w6.heap.size < w8.heap.size := Nat.lt_of_lt_of_le hlx0 hb.size
    replace HB := Aside0.mk (below_on HB.out HB.out.size hb)
    clear hb
    obtain ⟨A8_0, c8_0, rfl⟩ := HO8_0.slice
    go_wp2_with fail
    refine calls_named fun W9 hW => ?_
    have hs : Below w8.heap.size w8 W9 := by rw [hW]; repeat (first | exact Below.refl _ _ | apply below_alloc | apply below_drew1 | apply pw_below_drewN)
    clear hW
    replace hcaM_0 := pw_cell_below hs hcaM_0
    replace hcw0_0 := pw_cell_below hs hcw0_0
    replace hcx0_0 := pw_cell_below hs hcx0_0
    replace HO2_0 := HO2_0.below hs
    replace HO3_0 := HO3_0.below hs
    replace HO4_0 := HO4_0.below hs
    replace HO5_0 := HO5_0.below hs
    replace HO6_0 := HO6_0.below hs
    replace HO7_0 := HO7_0.below hs
    replace HO8_0 := HO8_0.below hs
    replace hlaM : w.heap.size < W9.heap.size := Nat.lt_of_lt_of_le hlaM hs.size
    replace hlw0 : w5.heap.size < W9.heap.size := Nat.lt_of_lt_of_le hlw0 hs.size
    replace hlx0 : w6.heap.size < W9.heap.size := Nat.lt_of_lt_of_le hlx0 hs.size
    replace HB := Aside0.mk (below_on HB.out HB.out.size hs)
    have zs9 := Aside0.mk hs.size
    clear hs
    obtain ⟨kk9, e_9⟩ := E9.out
    replace e_9 := Aside0.mk e_9
    refine (impl_PartOf.calls kk9 _ _ t_aM_0 _ _ t_aRows_0 _ _ t_aColumns_0 r_0 r_1 W9 HO6_0.C HO6_0.cap HO7_0.C HO7_0.cap HO8_0.C HO8_0.cap e_9.out).mono ?_
    rintro e w9 ⟨v9_0, rfl, h9_0, hb⟩
    clear e_9
    have HO9_0 := OwnS.new (b := w.heap.size) h9_0 HB.out.size
    clear h9_0
    have zc9 := Aside0.mk hb.size
    replace hcaM_0 := pw_cell_below hb hcaM_0
    replace hcw0_0 := pw_cell_below hb hcw0_0
    replace hcx0_0 := pw_cell_below hb hcx0_0
    replace HO2_0 := HO2_0.below hb
    replace HO3_0 := HO3_0.below hb
    replace HO4_0 := HO4_0.below hb
    replace HO5_0 := HO5_0.below hb
    replace HO6_0 := HO6_0.below hb
    replace HO7_0 := HO7_0.below hb
    replace HO8_0 := HO8_0.below hb
    replace hlaM : w.heap.size < w9.heap.size := Nat.lt_of_lt_of_le hlaM hb.size
    replace hlw0 : w5.heap.size < w9.heap.size := Nat.lt_of_lt_of_le hlw0 hb.size
    replace hlx0 : w6.heap.size < w9.heap.size := Nat.lt_of_lt_of_le hlx0 hb.size
    replace HB := Aside0.mk (below_on HB.out HB.out.size hb)
    clear hb
    obtain ⟨A9_0, c9_0, rfl⟩ := HO9_0.slice
    go_wp2_with fail
    refine calls_named fun W10 hW => ?_
    have hs : Below w9.heap.size w9 W10 := by rw [hW]; repeat (first | exact Below.refl _ _ | apply below_alloc | apply below_drew1 | apply pw_below_drewN)
    have hcg0_0 : W10.cell? ⟨w9.heap.size, 0, none⟩ = some (.slice A9_0 r_0.length c9_0) := by rw [hW]; go_simp
    have hlg0 : w9.heap.size < W10.heap.size := by rw [hW]; simp <;> omega
    have zlg0 := Aside0.mk hlg0
    clear hW
    replace hcaM_0 := pw_cell_below hs hcaM_0
    replace hcw0_0 := pw_cell_below hs hcw0_0
    replace hcx0_0 := pw_cell_below hs hcx0_0
    replace HO2_0 := HO2_0.below hs
    replace HO3_0 := HO3_0.below hs
    replace HO4_0 := HO4_0.below hs
    replace HO5_0 := HO5_0.below hs
    replace HO6_0 := HO6_0.below hs
    replace HO7_0 := HO7_0.below hs
    replace HO8_0 := HO8_0.below hs
    replace HO9_0 := HO9_0.below hs
    replace hlaM : w.heap.size < W10.heap.size := Nat.lt_of_lt_of_le hlaM hs.size
    replace hlw0 : w5.heap.size < W10.heap.size := Nat.lt_of_lt_of_le hlw0 hs.size
    replace hlx0 : w6.heap.size < W10.heap.size := Nat.lt_of_lt_of_le hlx0 hs.size
    replace HB := Aside0.mk (below_on HB.out HB.out.size hs)
    have zs10 := Aside0.mk hs.size
    clear hs
    obtain ⟨kk10, e_10⟩ := E10.out
    replace e_10 := Aside0.mk e_10
    refine (laws_eqMatrix.calls kk10 _ _ r_0 _ _ r_0 true W10 HO9_0.C HO9_0.cap HO5_0.C HO5_0.cap e_10.out).mono ?_
    rintro e w10 ⟨rfl, hb⟩
    clear e_10
    have zc10 := Aside0.mk hb.size
    replace hcaM_0 := pw_cell_below hb hcaM_0
    replace hcw0_0 := pw_cell_below hb hcw0_0
    replace hcx0_0 := pw_cell_below hb hcx0_0
    replace hcg0_0 := pw_cell_below hb hcg0_0
    replace HO2_0 := HO2_0.below hb
    replace HO3_0 := HO3_0.below hb
    replace HO4_0 := HO4_0.below hb
    replace HO5_0 := HO5_0.below hb
    replace HO6_0 := HO6_0.below hb
    replace HO7_0 := HO7_0.below hb
    replace HO8_0 := HO8_0.below hb
    replace HO9_0 := HO9_0.below hb
    replace hlaM : w.heap.size < w10.heap.size := Nat.lt_of_lt_of_le hlaM hb.size
    replace hlw0 : w5.heap.size < w10.heap.size := Nat.lt_of_lt_of_le hlw0 hb.size
    replace hlx0 : w6.heap.size < w10.heap.size := Nat.lt_of_lt_of_le hlx0 hb.size
    replace hlg0 : w9.heap.size < w10.heap.size := Nat.lt_of_lt_of_le hlg0 hb.size
    replace HB := Aside0.mk (below_on HB.out HB.out.size hb)
    clear hb
    go_wp2_with fail
    have hd : Below w10.heap.size w10 w10.drew := below_drew1 (Below.refl _ _)
    refine start_ (n := 5) (S := fun w' => w'.cell? ⟨w6.heap.size, 0, none⟩ = some (.slice A6_0 t_aM_0.length c6_0) ∧ w'.cell? ⟨w.heap.size, 0, none⟩ = some (.slice A0_0 l0_0.length c0_0)) (ds := []) #[false, false, false, false, false] (by kernel_rfl) rfl rfl ⟨pw_cell_below hd hcx0_0, pw_cell_below hd hcaM_0⟩ (fun hHeld => ?_)
    generalize w10.drew = W11 at hd hHeld ⊢
    have zs11 := Aside0.mk hd.size
    replace hcaM_0 := pw_cell_below hd hcaM_0
    replace hcw0_0 := pw_cell_below hd hcw0_0
    replace hcx0_0 := pw_cell_below hd hcx0_0
    replace hcg0_0 := pw_cell_below hd hcg0_0
    replace HO2_0 := HO2_0.below hd
    replace HO3_0 := HO3_0.below hd
    replace HO4_0 := HO4_0.below hd
    replace HO5_0 := HO5_0.below hd
    replace HO6_0 := HO6_0.below hd
    replace HO7_0 := HO7_0.below hd
    replace HO8_0 := HO8_0.below hd
    replace HO9_0 := HO9_0.below hd
    replace hlaM : w.heap.size < W11.heap.size := Nat.lt_of_lt_of_le hlaM hd.size
    replace hlw0 : w5.heap.size < W11.heap.size := Nat.lt_of_lt_of_le hlw0 hd.size
    replace hlx0 : w6.heap.size < W11.heap.size := Nat.lt_of_lt_of_le hlx0 hd.size
    replace hlg0 : w9.heap.size < W11.heap.size := Nat.lt_of_lt_of_le hlg0 hd.size
    replace HB := Aside0.mk (below_on HB.out HB.out.size hd)
    clear hd
    refine take_ (i := 0) (N := some 63) (v := ?_) (a' := ?_) #[true, false, false, false, false] rfl rfl (by kernel_rfl) (fun _ _ _ h => h) (Or.inl ⟨by rfl, ?_⟩) hHeld ?_ ?_
    rotate_left
    · rintro w' ⟨s0, s1⟩
      go_simp
      with_reducible rfl
    rotate_left
    · simp only [Act.put, List.setIfInBounds_toArray, List.set_cons_zero, List.set_cons_succ, i64_w, i32_w]
      rfl
    refine take_ (i := 1) (N := some 64) (v := ?_) (a' := ?_) #[true, true, false, false, false] rfl rfl (by kernel_rfl) (fun _ _ _ h => h) (Or.inl ⟨by rfl, ?_⟩) hHeld ?_ ?_
    rotate_left
    · rintro w' ⟨s0, s1⟩
      go_simp
      with_reducible rfl
    rotate_left
    · simp only [Act.put, List.setIfInBounds_toArray, List.set_cons_zero, List.set_cons_succ, i64_w, i32_w]
      rfl
    refine one_ (i := 2) (N := some 65) #[true, true, true, false, false] rfl rfl (by kernel_rfl) (by decide) (fun K hK => ?_)
    refine goes_ Try.func48 (by kernel_rfl) rfl #[.agg #[.slice A0_0 l0_0.length c0_0]] (by rfl) rfl rfl (by (try simp only [List.map_toArray, List.map_cons, List.map_nil]); first | done | rfl | (simp only [List.length_drop, List.length_take]; rfl)) ?_
    obtain ⟨kk12, e_12⟩ := E2.out
    replace e_12 := Aside0.mk e_12
    refine (laws_toMatrix.calls kk12 _ _ l0_0 t_aM_0 W11 (Kd.C_below HR0_0.out HB.out) HC0_0.out e_12.out).mono ?_
    rintro e w12 ⟨v12_0, rfl, h12_0, hb⟩
    refine ⟨_, rfl, ?_⟩
    clear e_12
    have HO12_0 := OwnS.new (b := w.heap.size) h12_0 HB.out.size
    clear h12_0
    have zc12 := Aside0.mk hb.size
    replace hcaM_0 := pw_cell_below hb hcaM_0
    replace hcw0_0 := pw_cell_below hb hcw0_0
    replace hcx0_0 := pw_cell_below hb hcx0_0
    replace hcg0_0 := pw_cell_below hb hcg0_0
    replace HO2_0 := HO2_0.below hb
    replace HO3_0 := HO3_0.below hb
    replace HO4_0 := HO4_0.below hb
    replace HO5_0 := HO5_0.below hb
    replace HO6_0 := HO6_0.below hb
    replace HO7_0 := HO7_0.below hb
    replace HO8_0 := HO8_0.below hb
    replace HO9_0 := HO9_0.below hb
    replace hlaM : w.heap.size < w12.heap.size := Nat.lt_of_lt_of_le hlaM hb.size
    replace hlw0 : w5.heap.size < w12.heap.size := Nat.lt_of_lt_of_le hlw0 hb.size
    replace hlx0 : w6.heap.size < w12.heap.size := Nat.lt_of_lt_of_le hlx0 hb.size
    replace hlg0 : w9.heap.size < w12.heap.size := Nat.lt_of_lt_of_le hlg0 hb.size
    replace HB := Aside0.mk (below_on HB.out HB.out.size hb)
    clear hb
    obtain ⟨A12_0, c12_0, rfl⟩ := HO12_0.slice
    refine hK.out _ _ ⟨hcx0_0, hcaM_0⟩ (fun hHeld => ?_)
    clear hK K
    refine norm_ (a' := ?_) ?_ ?_
    rotate_left
    · show Act.put _ (some 65) _ = _
      simp only [Act.put, List.setIfInBounds_toArray, List.set_cons_zero, List.set_cons_succ, i64_w, i32_w]
      rfl
    refine one_ (i := 3) (N := some 66) #[true, true, true, true, false] rfl rfl (by kernel_rfl) (by decide) (fun K hK => ?_)
    refine goes_ Try.func17 (by kernel_rfl) rfl #[.agg #[.slice A6_0 t_aM_0.length c6_0], .agg #[.slice A12_0 t_aM_0.length c12_0]] (by rfl) rfl rfl (by (try simp only [List.map_toArray, List.map_cons, List.map_nil]); first | done | rfl | (simp only [List.length_drop, List.length_take]; rfl)) ?_
    obtain ⟨kk13, e_13⟩ := E11.out
    replace e_13 := Aside0.mk e_13
    refine (laws_eqMatrix.calls kk13 _ _ t_aM_0 _ _ t_aM_0 true w12 HO6_0.C HO6_0.cap HO12_0.C HO12_0.cap e_13.out).mono ?_
    rintro e w13 ⟨rfl, hb⟩
    refine ⟨_, rfl, ?_⟩
    clear e_13
    have zc13 := Aside0.mk hb.size
    replace hcaM_0 := pw_cell_below hb hcaM_0
    replace hcw0_0 := pw_cell_below hb hcw0_0
    replace hcx0_0 := pw_cell_below hb hcx0_0
    replace hcg0_0 := pw_cell_below hb hcg0_0
    replace HO2_0 := HO2_0.below hb
    replace HO3_0 := HO3_0.below hb
    replace HO4_0 := HO4_0.below hb
    replace HO5_0 := HO5_0.below hb
    replace HO6_0 := HO6_0.below hb
    replace HO7_0 := HO7_0.below hb
    replace HO8_0 := HO8_0.below hb
    replace HO9_0 := HO9_0.below hb
    replace HO12_0 := HO12_0.below hb
    replace hlaM : w.heap.size < w13.heap.size := Nat.lt_of_lt_of_le hlaM hb.size
    replace hlw0 : w5.heap.size < w13.heap.size := Nat.lt_of_lt_of_le hlw0 hb.size
    replace hlx0 : w6.heap.size < w13.heap.size := Nat.lt_of_lt_of_le hlx0 hb.size
    replace hlg0 : w9.heap.size < w13.heap.size := Nat.lt_of_lt_of_le hlg0 hb.size
    replace HB := Aside0.mk (below_on HB.out HB.out.size hb)
    clear hb
    refine hK.out _ _ ⟨hcx0_0, hcaM_0⟩ (fun hHeld => ?_)
    clear hK K
    refine norm_ (a' := ?_) ?_ ?_
    rotate_left
    · show Act.put _ (some 66) _ = _
      simp only [Act.put, List.setIfInBounds_toArray, List.set_cons_zero, List.set_cons_succ, i64_w, i32_w]
      rfl
    refine pure_ (i := 4) (N := some 67) (v := ?_) (a' := ?_) #[true, true, true, true, true] rfl rfl (by kernel_rfl) (fun _ _ _ h => h) (Or.inl ⟨by rfl, ?_⟩) ?_ ?_
    rotate_left
    · intro w'
      go_simp
      with_reducible rfl
    rotate_left
    · simp only [Act.put, List.setIfInBounds_toArray, List.set_cons_zero, List.set_cons_succ, i64_w, i32_w]
      rfl
    refine done_ (by kernel_rfl) ?_
    go_wp2_with fail
    refine calls_named fun W14 hW => ?_
    have hs : Below w13.heap.size w13 W14 := by rw [hW]; repeat (first | exact Below.refl _ _ | apply below_alloc | apply below_drew1 | apply pw_below_drewN)
    clear hW
    replace hcaM_0 := pw_cell_below hs hcaM_0
    replace hcw0_0 := pw_cell_below hs hcw0_0
    replace hcx0_0 := pw_cell_below hs hcx0_0
    replace hcg0_0 := pw_cell_below hs hcg0_0
    replace HO2_0 := HO2_0.below hs
    replace HO3_0 := HO3_0.below hs
    replace HO4_0 := HO4_0.below hs
    replace HO5_0 := HO5_0.below hs
    replace HO6_0 := HO6_0.below hs
    replace HO7_0 := HO7_0.below hs
    replace HO8_0 := HO8_0.below hs
    replace HO9_0 := HO9_0.below hs
    replace HO12_0 := HO12_0.below hs
    replace hlaM : w.heap.size < W14.heap.size := Nat.lt_of_lt_of_le hlaM hs.size
    replace hlw0 : w5.heap.size < W14.heap.size := Nat.lt_of_lt_of_le hlw0 hs.size
    replace hlx0 : w6.heap.size < W14.heap.size := Nat.lt_of_lt_of_le hlx0 hs.size
    replace hlg0 : w9.heap.size < W14.heap.size := Nat.lt_of_lt_of_le hlg0 hs.size
    replace HB := Aside0.mk (below_on HB.out HB.out.size hs)
    have zs14 := Aside0.mk hs.size
    clear hs
    obtain ⟨kk14, e_14⟩ := E4.out
    replace e_14 := Aside0.mk e_14
    refine (laws_toIntS.calls kk14 _ _ l1 t_aRows_0 W14 (Kd.C_below HR1.out HB.out) HC1.out e_14.out).mono ?_
    rintro e w14 ⟨v14_0, rfl, h14_0, hb⟩
    clear e_14
    have HO14_0 := OwnR.new (b := w.heap.size) h14_0 HB.out.size
    clear h14_0
    have zc14 := Aside0.mk hb.size
    replace hcaM_0 := pw_cell_below hb hcaM_0
    replace hcw0_0 := pw_cell_below hb hcw0_0
    replace hcx0_0 := pw_cell_below hb hcx0_0
    replace hcg0_0 := pw_cell_below hb hcg0_0
    replace HO2_0 := HO2_0.below hb
    replace HO3_0 := HO3_0.below hb
    replace HO4_0 := HO4_0.below hb
    replace HO5_0 := HO5_0.below hb
    replace HO6_0 := HO6_0.below hb
    replace HO7_0 := HO7_0.below hb
    replace HO8_0 := HO8_0.below hb
    replace HO9_0 := HO9_0.below hb
    replace HO12_0 := HO12_0.below hb
    replace hlaM : w.heap.size < w14.heap.size := Nat.lt_of_lt_of_le hlaM hb.size
    replace hlw0 : w5.heap.size < w14.heap.size := Nat.lt_of_lt_of_le hlw0 hb.size
    replace hlx0 : w6.heap.size < w14.heap.size := Nat.lt_of_lt_of_le hlx0 hb.size
    replace hlg0 : w9.heap.size < w14.heap.size := Nat.lt_of_lt_of_le hlg0 hb.size
    replace HB := Aside0.mk (below_on HB.out HB.out.size hb)
    clear hb
    obtain ⟨A14_0, c14_0, rfl⟩ := HO14_0.slice
    go_wp2_with fail
    refine calls_named fun W15 hW => ?_
    have hs : Below w14.heap.size w14 W15 := by rw [hW]; repeat (first | exact Below.refl _ _ | apply below_alloc | apply below_drew1 | apply pw_below_drewN)
    clear hW
    replace hcaM_0 := pw_cell_below hs hcaM_0
    replace hcw0_0 := pw_cell_below hs hcw0_0
    replace hcx0_0 := pw_cell_below hs hcx0_0
    replace hcg0_0 := pw_cell_below hs hcg0_0
    replace HO2_0 := HO2_0.below hs
    replace HO3_0 := HO3_0.below hs
    replace HO4_0 := HO4_0.below hs
    replace HO5_0 := HO5_0.below hs
    replace HO6_0 := HO6_0.below hs
    replace HO7_0 := HO7_0.below hs
    replace HO8_0 := HO8_0.below hs
    replace HO9_0 := HO9_0.below hs
    replace HO12_0 := HO12_0.below hs
    replace HO14_0 := HO14_0.below hs
    replace hlaM : w.heap.size < W15.heap.size := Nat.lt_of_lt_of_le hlaM hs.size
    replace hlw0 : w5.heap.size < W15.heap.size := Nat.lt_of_lt_of_le hlw0 hs.size
    replace hlx0 : w6.heap.size < W15.heap.size := Nat.lt_of_lt_of_le hlx0 hs.size
    replace hlg0 : w9.heap.size < W15.heap.size := Nat.lt_of_lt_of_le hlg0 hs.size
    replace HB := Aside0.mk (below_on HB.out HB.out.size hs)
    have zs15 := Aside0.mk hs.size
    clear hs
    obtain ⟨kk15, e_15⟩ := E12.out
    replace e_15 := Aside0.mk e_15
    refine (laws_eqIntS.calls kk15 _ _ t_aRows_0 _ _ t_aRows_0 true W15 HO7_0.C HO7_0.cap HO14_0.C HO14_0.cap e_15.out).mono ?_
    rintro e w15 ⟨rfl, hd⟩
    have hb := hd.below
    clear hd
    clear e_15
    have zc15 := Aside0.mk hb.size
    replace hcaM_0 := pw_cell_below hb hcaM_0
    replace hcw0_0 := pw_cell_below hb hcw0_0
    replace hcx0_0 := pw_cell_below hb hcx0_0
    replace hcg0_0 := pw_cell_below hb hcg0_0
    replace HO2_0 := HO2_0.below hb
    replace HO3_0 := HO3_0.below hb
    replace HO4_0 := HO4_0.below hb
    replace HO5_0 := HO5_0.below hb
    replace HO6_0 := HO6_0.below hb
    replace HO7_0 := HO7_0.below hb
    replace HO8_0 := HO8_0.below hb
    replace HO9_0 := HO9_0.below hb
    replace HO12_0 := HO12_0.below hb
    replace HO14_0 := HO14_0.below hb
    replace hlaM : w.heap.size < w15.heap.size := Nat.lt_of_lt_of_le hlaM hb.size
    replace hlw0 : w5.heap.size < w15.heap.size := Nat.lt_of_lt_of_le hlw0 hb.size
    replace hlx0 : w6.heap.size < w15.heap.size := Nat.lt_of_lt_of_le hlx0 hb.size
    replace hlg0 : w9.heap.size < w15.heap.size := Nat.lt_of_lt_of_le hlg0 hb.size
    replace HB := Aside0.mk (below_on HB.out HB.out.size hb)
    clear hb
    go_wp2_with fail
    refine calls_named fun W16 hW => ?_
    have hs : Below w15.heap.size w15 W16 := by rw [hW]; repeat (first | exact Below.refl _ _ | apply below_alloc | apply below_drew1 | apply pw_below_drewN)
    clear hW
    replace hcaM_0 := pw_cell_below hs hcaM_0
    replace hcw0_0 := pw_cell_below hs hcw0_0
    replace hcx0_0 := pw_cell_below hs hcx0_0
    replace hcg0_0 := pw_cell_below hs hcg0_0
    replace HO2_0 := HO2_0.below hs
    replace HO3_0 := HO3_0.below hs
    replace HO4_0 := HO4_0.below hs
    replace HO5_0 := HO5_0.below hs
    replace HO6_0 := HO6_0.below hs
    replace HO7_0 := HO7_0.below hs
    replace HO8_0 := HO8_0.below hs
    replace HO9_0 := HO9_0.below hs
    replace HO12_0 := HO12_0.below hs
    replace HO14_0 := HO14_0.below hs
    replace hlaM : w.heap.size < W16.heap.size := Nat.lt_of_lt_of_le hlaM hs.size
    replace hlw0 : w5.heap.size < W16.heap.size := Nat.lt_of_lt_of_le hlw0 hs.size
    replace hlx0 : w6.heap.size < W16.heap.size := Nat.lt_of_lt_of_le hlx0 hs.size
    replace hlg0 : w9.heap.size < W16.heap.size := Nat.lt_of_lt_of_le hlg0 hs.size
    replace HB := Aside0.mk (below_on HB.out HB.out.size hs)
    have zs16 := Aside0.mk hs.size
    clear hs
    obtain ⟨kk16, e_16⟩ := E6.out
    replace e_16 := Aside0.mk e_16
    refine (laws_toIntS.calls kk16 _ _ l2 t_aColumns_0 W16 (Kd.C_below HR2.out HB.out) HC2.out e_16.out).mono ?_
    rintro e w16 ⟨v16_0, rfl, h16_0, hb⟩
    clear e_16
    have HO16_0 := OwnR.new (b := w.heap.size) h16_0 HB.out.size
    clear h16_0
    have zc16 := Aside0.mk hb.size
    replace hcaM_0 := pw_cell_below hb hcaM_0
    replace hcw0_0 := pw_cell_below hb hcw0_0
    replace hcx0_0 := pw_cell_below hb hcx0_0
    replace hcg0_0 := pw_cell_below hb hcg0_0
    replace HO2_0 := HO2_0.below hb
    replace HO3_0 := HO3_0.below hb
    replace HO4_0 := HO4_0.below hb
    replace HO5_0 := HO5_0.below hb
    replace HO6_0 := HO6_0.below hb
    replace HO7_0 := HO7_0.below hb
    replace HO8_0 := HO8_0.below hb
    replace HO9_0 := HO9_0.below hb
    replace HO12_0 := HO12_0.below hb
    replace HO14_0 := HO14_0.below hb
    replace hlaM : w.heap.size < w16.heap.size := Nat.lt_of_lt_of_le hlaM hb.size
    replace hlw0 : w5.heap.size < w16.heap.size := Nat.lt_of_lt_of_le hlw0 hb.size
    replace hlx0 : w6.heap.size < w16.heap.size := Nat.lt_of_lt_of_le hlx0 hb.size
    replace hlg0 : w9.heap.size < w16.heap.size := Nat.lt_of_lt_of_le hlg0 hb.size
    replace HB := Aside0.mk (below_on HB.out HB.out.size hb)
    clear hb
    obtain ⟨A16_0, c16_0, rfl⟩ := HO16_0.slice
    go_wp2_with fail
    refine calls_named fun W17 hW => ?_
    have hs : Below w16.heap.size w16 W17 := by rw [hW]; repeat (first | exact Below.refl _ _ | apply below_alloc | apply below_drew1 | apply pw_below_drewN)
    clear hW
    replace hcaM_0 := pw_cell_below hs hcaM_0
    replace hcw0_0 := pw_cell_below hs hcw0_0
    replace hcx0_0 := pw_cell_below hs hcx0_0
    replace hcg0_0 := pw_cell_below hs hcg0_0
    replace HO2_0 := HO2_0.below hs
    replace HO3_0 := HO3_0.below hs
    replace HO4_0 := HO4_0.below hs
    replace HO5_0 := HO5_0.below hs
    replace HO6_0 := HO6_0.below hs
    replace HO7_0 := HO7_0.below hs
    replace HO8_0 := HO8_0.below hs
    replace HO9_0 := HO9_0.below hs
    replace HO12_0 := HO12_0.below hs
    replace HO14_0 := HO14_0.below hs
    replace HO16_0 := HO16_0.below hs
    replace hlaM : w.heap.size < W17.heap.size := Nat.lt_of_lt_of_le hlaM hs.size
    replace hlw0 : w5.heap.size < W17.heap.size := Nat.lt_of_lt_of_le hlw0 hs.size
    replace hlx0 : w6.heap.size < W17.heap.size := Nat.lt_of_lt_of_le hlx0 hs.size
    replace hlg0 : w9.heap.size < W17.heap.size := Nat.lt_of_lt_of_le hlg0 hs.size
    replace HB := Aside0.mk (below_on HB.out HB.out.size hs)
    have zs17 := Aside0.mk hs.size
    clear hs
    obtain ⟨kk17, e_17⟩ := E13.out
    replace e_17 := Aside0.mk e_17
    refine (laws_eqIntS.calls kk17 _ _ t_aColumns_0 _ _ t_aColumns_0 true W17 HO8_0.C HO8_0.cap HO16_0.C HO16_0.cap e_17.out).mono ?_
    rintro e w17 ⟨rfl, hd⟩
    have hb := hd.below
    clear hd
    clear e_17
    have zc17 := Aside0.mk hb.size
    replace hcaM_0 := pw_cell_below hb hcaM_0
    replace hcw0_0 := pw_cell_below hb hcw0_0
    replace hcx0_0 := pw_cell_below hb hcx0_0
    replace hcg0_0 := pw_cell_below hb hcg0_0
    replace HO2_0 := HO2_0.below hb
    replace HO3_0 := HO3_0.below hb
    replace HO4_0 := HO4_0.below hb
    replace HO5_0 := HO5_0.below hb
    replace HO6_0 := HO6_0.below hb
    replace HO7_0 := HO7_0.below hb
    replace HO8_0 := HO8_0.below hb
    replace HO9_0 := HO9_0.below hb
    replace HO12_0 := HO12_0.below hb
    replace HO14_0 := HO14_0.below hb
    replace HO16_0 := HO16_0.below hb
    replace hlaM : w.heap.size < w17.heap.size := Nat.lt_of_lt_of_le hlaM hb.size
    replace hlw0 : w5.heap.size < w17.heap.size := Nat.lt_of_lt_of_le hlw0 hb.size
    replace hlx0 : w6.heap.size < w17.heap.size := Nat.lt_of_lt_of_le hlx0 hb.size
    replace hlg0 : w9.heap.size < w17.heap.size := Nat.lt_of_lt_of_le hlg0 hb.size
    replace HB := Aside0.mk (below_on HB.out HB.out.size hb)
    clear hb
    go_wp2_with fail
    refine calls_named fun W18 hW => ?_
    have hs : Below w17.heap.size w17 W18 := by rw [hW]; repeat (first | exact Below.refl _ _ | apply below_alloc | apply below_drew1 | apply pw_below_drewN)
    clear hW
    replace hcaM_0 := pw_cell_below hs hcaM_0
    replace hcw0_0 := pw_cell_below hs hcw0_0
    replace hcx0_0 := pw_cell_below hs hcx0_0
    replace hcg0_0 := pw_cell_below hs hcg0_0
    replace HO2_0 := HO2_0.below hs
    replace HO3_0 := HO3_0.below hs
    replace HO4_0 := HO4_0.below hs
    replace HO5_0 := HO5_0.below hs
    replace HO6_0 := HO6_0.below hs
    replace HO7_0 := HO7_0.below hs
    replace HO8_0 := HO8_0.below hs
    replace HO9_0 := HO9_0.below hs
    replace HO12_0 := HO12_0.below hs
    replace HO14_0 := HO14_0.below hs
    replace HO16_0 := HO16_0.below hs
    replace hlaM : w.heap.size < W18.heap.size := Nat.lt_of_lt_of_le hlaM hs.size
    replace hlw0 : w5.heap.size < W18.heap.size := Nat.lt_of_lt_of_le hlw0 hs.size
    replace hlx0 : w6.heap.size < W18.heap.size := Nat.lt_of_lt_of_le hlx0 hs.size
    replace hlg0 : w9.heap.size < W18.heap.size := Nat.lt_of_lt_of_le hlg0 hs.size
    replace HB := Aside0.mk (below_on HB.out HB.out.size hs)
    have zs18 := Aside0.mk hs.size
    clear hs
    refine (laws_markMatrix.calls (fun k => W6.heap.size ≤ k ∧ k < w6.heap.size) _ t_aM_0 1 w W18 HB.out HO6_0.out HMB.out (by have := HT0.out; omega) (by have := HT0.out; omega) (by have := HT0.out; omega)).mono ?_
    rintro e w18 ⟨rfl, hS, hB, hk⟩
    replace HO6_0 := OwnS.mk hS
    clear hS
    have zc18 := Aside0.mk hk.1
    replace hcaM_0 := cell_kept hcaM_0 hk (fun h3_ => by have h4_ : W6.heap.size ≤ w.heap.size ∧ w.heap.size < w6.heap.size := h3_; clear h3_; have := zlaM.out; have := zs1.out; have := zc1.out; have := zs2.out; have := zc2.out; have := zs3.out; have := zc3.out; have := zs4.out; have := zc4.out; have := zs5.out; have := zc5.out; have := zlw0.out; have := zs6.out; have := zc6.out; have := zlx0.out; have := zs7.out; have := zc7.out; have := zs8.out; have := zc8.out; have := zs9.out; have := zc9.out; have := zlg0.out; have := zs10.out; have := zc10.out; have := zs11.out; have := zc12.out; have := zc13.out; have := zs14.out; have := zc14.out; have := zs15.out; have := zc15.out; have := zs16.out; have := zc16.out; have := zs17.out; have := zc17.out; have := zs18.out; have := zc18.out; omega)
    replace hcw0_0 := cell_kept hcw0_0 hk (fun h3_ => by have h4_ : W6.heap.size ≤ w5.heap.size ∧ w5.heap.size < w6.heap.size := h3_; clear h3_; have := zlaM.out; have := zs1.out; have := zc1.out; have := zs2.out; have := zc2.out; have := zs3.out; have := zc3.out; have := zs4.out; have := zc4.out; have := zs5.out; have := zc5.out; have := zlw0.out; have := zs6.out; have := zc6.out; have := zlx0.out; have := zs7.out; have := zc7.out; have := zs8.out; have := zc8.out; have := zs9.out; have := zc9.out; have := zlg0.out; have := zs10.out; have := zc10.out; have := zs11.out; have := zc12.out; have := zc13.out; have := zs14.out; have := zc14.out; have := zs15.out; have := zc15.out; have := zs16.out; have := zc16.out; have := zs17.out; have := zc17.out; have := zs18.out; have := zc18.out; omega)
    replace hcx0_0 := cell_kept hcx0_0 hk (fun h3_ => by have h4_ : W6.heap.size ≤ w6.heap.size ∧ w6.heap.size < w6.heap.size := h3_; clear h3_; have := zlaM.out; have := zs1.out; have := zc1.out; have := zs2.out; have := zc2.out; have := zs3.out; have := zc3.out; have := zs4.out; have := zc4.out; have := zs5.out; have := zc5.out; have := zlw0.out; have := zs6.out; have := zc6.out; have := zlx0.out; have := zs7.out; have := zc7.out; have := zs8.out; have := zc8.out; have := zs9.out; have := zc9.out; have := zlg0.out; have := zs10.out; have := zc10.out; have := zs11.out; have := zc12.out; have := zc13.out; have := zs14.out; have := zc14.out; have := zs15.out; have := zc15.out; have := zs16.out; have := zc16.out; have := zs17.out; have := zc17.out; have := zs18.out; have := zc18.out; omega)
    replace hcg0_0 := cell_kept hcg0_0 hk (fun h3_ => by have h4_ : W6.heap.size ≤ w9.heap.size ∧ w9.heap.size < w6.heap.size := h3_; clear h3_; have := zlaM.out; have := zs1.out; have := zc1.out; have := zs2.out; have := zc2.out; have := zs3.out; have := zc3.out; have := zs4.out; have := zc4.out; have := zs5.out; have := zc5.out; have := zlw0.out; have := zs6.out; have := zc6.out; have := zlx0.out; have := zs7.out; have := zc7.out; have := zs8.out; have := zc8.out; have := zs9.out; have := zc9.out; have := zlg0.out; have := zs10.out; have := zc10.out; have := zs11.out; have := zc12.out; have := zc13.out; have := zs14.out; have := zc14.out; have := zs15.out; have := zc15.out; have := zs16.out; have := zc16.out; have := zs17.out; have := zc17.out; have := zs18.out; have := zc18.out; omega)
    replace HO2_0 := HO2_0.kept hk (fun k_ h1_ h2_ h3_ => by have := zlaM.out; have := zs1.out; have := zc1.out; have := zs2.out; have := zc2.out; have := zs3.out; have := zc3.out; have := zs4.out; have := zc4.out; have := zs5.out; have := zc5.out; have := zlw0.out; have := zs6.out; have := zc6.out; have := zlx0.out; have := zs7.out; have := zc7.out; have := zs8.out; have := zc8.out; have := zs9.out; have := zc9.out; have := zlg0.out; have := zs10.out; have := zc10.out; have := zs11.out; have := zc12.out; have := zc13.out; have := zs14.out; have := zc14.out; have := zs15.out; have := zc15.out; have := zs16.out; have := zc16.out; have := zs17.out; have := zc17.out; have := zs18.out; have := zc18.out; obtain ⟨h4_, h5_⟩ := h3_; omega)
    replace HO3_0 := HO3_0.kept hk (fun k_ h1_ h2_ h3_ => by have := zlaM.out; have := zs1.out; have := zc1.out; have := zs2.out; have := zc2.out; have := zs3.out; have := zc3.out; have := zs4.out; have := zc4.out; have := zs5.out; have := zc5.out; have := zlw0.out; have := zs6.out; have := zc6.out; have := zlx0.out; have := zs7.out; have := zc7.out; have := zs8.out; have := zc8.out; have := zs9.out; have := zc9.out; have := zlg0.out; have := zs10.out; have := zc10.out; have := zs11.out; have := zc12.out; have := zc13.out; have := zs14.out; have := zc14.out; have := zs15.out; have := zc15.out; have := zs16.out; have := zc16.out; have := zs17.out; have := zc17.out; have := zs18.out; have := zc18.out; obtain ⟨h4_, h5_⟩ := h3_; omega)
    replace HO4_0 := HO4_0.kept hk (fun k_ h1_ h2_ h3_ => by have := zlaM.out; have := zs1.out; have := zc1.out; have := zs2.out; have := zc2.out; have := zs3.out; have := zc3.out; have := zs4.out; have := zc4.out; have := zs5.out; have := zc5.out; have := zlw0.out; have := zs6.out; have := zc6.out; have := zlx0.out; have := zs7.out; have := zc7.out; have := zs8.out; have := zc8.out; have := zs9.out; have := zc9.out; have := zlg0.out; have := zs10.out; have := zc10.out; have := zs11.out; have := zc12.out; have := zc13.out; have := zs14.out; have := zc14.out; have := zs15.out; have := zc15.out; have := zs16.out; have := zc16.out; have := zs17.out; have := zc17.out; have := zs18.out; have := zc18.out; obtain ⟨h4_, h5_⟩ := h3_; omega)
    replace HO5_0 := HO5_0.kept hk (fun k_ h1_ h2_ h3_ => by have := zlaM.out; have := zs1.out; have := zc1.out; have := zs2.out; have := zc2.out; have := zs3.out; have := zc3.out; have := zs4.out; have := zc4.out; have := zs5.out; have := zc5.out; have := zlw0.out; have := zs6.out; have := zc6.out; have := zlx0.out; have := zs7.out; have := zc7.out; have := zs8.out; have := zc8.out; have := zs9.out; have := zc9.out; have := zlg0.out; have := zs10.out; have := zc10.out; have := zs11.out; have := zc12.out; have := zc13.out; have := zs14.out; have := zc14.out; have := zs15.out; have := zc15.out; have := zs16.out; have := zc16.out; have := zs17.out; have := zc17.out; have := zs18.out; have := zc18.out; obtain ⟨h4_, h5_⟩ := h3_; omega)
    replace HO7_0 := HO7_0.kept hk (fun k_ h1_ h2_ h3_ => by have := zlaM.out; have := zs1.out; have := zc1.out; have := zs2.out; have := zc2.out; have := zs3.out; have := zc3.out; have := zs4.out; have := zc4.out; have := zs5.out; have := zc5.out; have := zlw0.out; have := zs6.out; have := zc6.out; have := zlx0.out; have := zs7.out; have := zc7.out; have := zs8.out; have := zc8.out; have := zs9.out; have := zc9.out; have := zlg0.out; have := zs10.out; have := zc10.out; have := zs11.out; have := zc12.out; have := zc13.out; have := zs14.out; have := zc14.out; have := zs15.out; have := zc15.out; have := zs16.out; have := zc16.out; have := zs17.out; have := zc17.out; have := zs18.out; have := zc18.out; obtain ⟨h4_, h5_⟩ := h3_; omega)
    replace HO8_0 := HO8_0.kept hk (fun k_ h1_ h2_ h3_ => by have := zlaM.out; have := zs1.out; have := zc1.out; have := zs2.out; have := zc2.out; have := zs3.out; have := zc3.out; have := zs4.out; have := zc4.out; have := zs5.out; have := zc5.out; have := zlw0.out; have := zs6.out; have := zc6.out; have := zlx0.out; have := zs7.out; have := zc7.out; have := zs8.out; have := zc8.out; have := zs9.out; have := zc9.out; have := zlg0.out; have := zs10.out; have := zc10.out; have := zs11.out; have := zc12.out; have := zc13.out; have := zs14.out; have := zc14.out; have := zs15.out; have := zc15.out; have := zs16.out; have := zc16.out; have := zs17.out; have := zc17.out; have := zs18.out; have := zc18.out; obtain ⟨h4_, h5_⟩ := h3_; omega)
    replace HO9_0 := HO9_0.kept hk (fun k_ h1_ h2_ h3_ => by have := zlaM.out; have := zs1.out; have := zc1.out; have := zs2.out; have := zc2.out; have := zs3.out; have := zc3.out; have := zs4.out; have := zc4.out; have := zs5.out; have := zc5.out; have := zlw0.out; have := zs6.out; have := zc6.out; have := zlx0.out; have := zs7.out; have := zc7.out; have := zs8.out; have := zc8.out; have := zs9.out; have := zc9.out; have := zlg0.out; have := zs10.out; have := zc10.out; have := zs11.out; have := zc12.out; have := zc13.out; have := zs14.out; have := zc14.out; have := zs15.out; have := zc15.out; have := zs16.out; have := zc16.out; have := zs17.out; have := zc17.out; have := zs18.out; have := zc18.out; obtain ⟨h4_, h5_⟩ := h3_; omega)
    replace HO12_0 := HO12_0.kept hk (fun k_ h1_ h2_ h3_ => by have := zlaM.out; have := zs1.out; have := zc1.out; have := zs2.out; have := zc2.out; have := zs3.out; have := zc3.out; have := zs4.out; have := zc4.out; have := zs5.out; have := zc5.out; have := zlw0.out; have := zs6.out; have := zc6.out; have := zlx0.out; have := zs7.out; have := zc7.out; have := zs8.out; have := zc8.out; have := zs9.out; have := zc9.out; have := zlg0.out; have := zs10.out; have := zc10.out; have := zs11.out; have := zc12.out; have := zc13.out; have := zs14.out; have := zc14.out; have := zs15.out; have := zc15.out; have := zs16.out; have := zc16.out; have := zs17.out; have := zc17.out; have := zs18.out; have := zc18.out; obtain ⟨h4_, h5_⟩ := h3_; omega)
    replace HO14_0 := HO14_0.kept hk (fun k_ h1_ h2_ h3_ => by have := zlaM.out; have := zs1.out; have := zc1.out; have := zs2.out; have := zc2.out; have := zs3.out; have := zc3.out; have := zs4.out; have := zc4.out; have := zs5.out; have := zc5.out; have := zlw0.out; have := zs6.out; have := zc6.out; have := zlx0.out; have := zs7.out; have := zc7.out; have := zs8.out; have := zc8.out; have := zs9.out; have := zc9.out; have := zlg0.out; have := zs10.out; have := zc10.out; have := zs11.out; have := zc12.out; have := zc13.out; have := zs14.out; have := zc14.out; have := zs15.out; have := zc15.out; have := zs16.out; have := zc16.out; have := zs17.out; have := zc17.out; have := zs18.out; have := zc18.out; obtain ⟨h4_, h5_⟩ := h3_; omega)
    replace HO16_0 := HO16_0.kept hk (fun k_ h1_ h2_ h3_ => by have := zlaM.out; have := zs1.out; have := zc1.out; have := zs2.out; have := zc2.out; have := zs3.out; have := zc3.out; have := zs4.out; have := zc4.out; have := zs5.out; have := zc5.out; have := zlw0.out; have := zs6.out; have := zc6.out; have := zlx0.out; have := zs7.out; have := zc7.out; have := zs8.out; have := zc8.out; have := zs9.out; have := zc9.out; have := zlg0.out; have := zs10.out; have := zc10.out; have := zs11.out; have := zc12.out; have := zc13.out; have := zs14.out; have := zc14.out; have := zs15.out; have := zc15.out; have := zs16.out; have := zc16.out; have := zs17.out; have := zc17.out; have := zs18.out; have := zc18.out; obtain ⟨h4_, h5_⟩ := h3_; omega)
    replace hlaM : w.heap.size < w18.heap.size := Nat.lt_of_lt_of_le hlaM hk.1
    replace hlw0 : w5.heap.size < w18.heap.size := Nat.lt_of_lt_of_le hlw0 hk.1
    replace hlx0 : w6.heap.size < w18.heap.size := Nat.lt_of_lt_of_le hlx0 hk.1
    replace hlg0 : w9.heap.size < w18.heap.size := Nat.lt_of_lt_of_le hlg0 hk.1
    replace HB := Aside0.mk hB
    clear hB hk
    go_wp2_with fail
    refine calls_named fun W19 hW => ?_
    have hs : Below w18.heap.size w18 W19 := by rw [hW]; repeat (first | exact Below.refl _ _ | apply below_alloc | apply below_drew1 | apply pw_below_drewN)
    clear hW
    replace hcaM_0 := pw_cell_below hs hcaM_0
    replace hcw0_0 := pw_cell_below hs hcw0_0
    replace hcx0_0 := pw_cell_below hs hcx0_0
    replace hcg0_0 := pw_cell_below hs hcg0_0
    replace HO2_0 := HO2_0.below hs
    replace HO3_0 := HO3_0.below hs
    replace HO4_0 := HO4_0.below hs
    replace HO5_0 := HO5_0.below hs
    replace HO6_0 := HO6_0.below hs
    replace HO7_0 := HO7_0.below hs
    replace HO8_0 := HO8_0.below hs
    replace HO9_0 := HO9_0.below hs
    replace HO12_0 := HO12_0.below hs
    replace HO14_0 := HO14_0.below hs
    replace HO16_0 := HO16_0.below hs
    replace hlaM : w.heap.size < W19.heap.size := Nat.lt_of_lt_of_le hlaM hs.size
    replace hlw0 : w5.heap.size < W19.heap.size := Nat.lt_of_lt_of_le hlw0 hs.size
    replace hlx0 : w6.heap.size < W19.heap.size := Nat.lt_of_lt_of_le hlx0 hs.size
    replace hlg0 : w9.heap.size < W19.heap.size := Nat.lt_of_lt_of_le hlg0 hs.size
    replace HB := Aside0.mk (below_on HB.out HB.out.size hs)
    have zs19 := Aside0.mk hs.size
    clear hs
    obtain ⟨kk19, e_19⟩ := HMI.out t_aRows_0 (1 + ((totSS t_aM_0 : Nat) : Int)) (by have := HT0.out; have := HT1.out; omega) (by have := HT0.out; have := HT1.out; omega)
    replace e_19 := Aside0.mk e_19
    refine (laws_markIntS.calls kk19 (fun k => W7.heap.size ≤ k ∧ k < w7.heap.size) _ t_aRows_0 (1 + ((totSS t_aM_0 : Nat) : Int)) _ _ w W19 HB.out HO7_0.out e_19.out).mono ?_
    rintro e w19 ⟨rfl, hS, hB, hk⟩
    clear e_19
    replace HO7_0 := OwnR.marked rfl HO7_0 hS
    clear hS
    have zc19 := Aside0.mk hk.1
    replace hcaM_0 := cell_kept hcaM_0 hk (fun h3_ => by have h4_ : W7.heap.size ≤ w.heap.size ∧ w.heap.size < w7.heap.size := h3_; clear h3_; have := zlaM.out; have := zs1.out; have := zc1.out; have := zs2.out; have := zc2.out; have := zs3.out; have := zc3.out; have := zs4.out; have := zc4.out; have := zs5.out; have := zc5.out; have := zlw0.out; have := zs6.out; have := zc6.out; have := zlx0.out; have := zs7.out; have := zc7.out; have := zs8.out; have := zc8.out; have := zs9.out; have := zc9.out; have := zlg0.out; have := zs10.out; have := zc10.out; have := zs11.out; have := zc12.out; have := zc13.out; have := zs14.out; have := zc14.out; have := zs15.out; have := zc15.out; have := zs16.out; have := zc16.out; have := zs17.out; have := zc17.out; have := zs18.out; have := zc18.out; have := zs19.out; have := zc19.out; omega)
    replace hcw0_0 := cell_kept hcw0_0 hk (fun h3_ => by have h4_ : W7.heap.size ≤ w5.heap.size ∧ w5.heap.size < w7.heap.size := h3_; clear h3_; have := zlaM.out; have := zs1.out; have := zc1.out; have := zs2.out; have := zc2.out; have := zs3.out; have := zc3.out; have := zs4.out; have := zc4.out; have := zs5.out; have := zc5.out; have := zlw0.out; have := zs6.out; have := zc6.out; have := zlx0.out; have := zs7.out; have := zc7.out; have := zs8.out; have := zc8.out; have := zs9.out; have := zc9.out; have := zlg0.out; have := zs10.out; have := zc10.out; have := zs11.out; have := zc12.out; have := zc13.out; have := zs14.out; have := zc14.out; have := zs15.out; have := zc15.out; have := zs16.out; have := zc16.out; have := zs17.out; have := zc17.out; have := zs18.out; have := zc18.out; have := zs19.out; have := zc19.out; omega)
    replace hcx0_0 := cell_kept hcx0_0 hk (fun h3_ => by have h4_ : W7.heap.size ≤ w6.heap.size ∧ w6.heap.size < w7.heap.size := h3_; clear h3_; have := zlaM.out; have := zs1.out; have := zc1.out; have := zs2.out; have := zc2.out; have := zs3.out; have := zc3.out; have := zs4.out; have := zc4.out; have := zs5.out; have := zc5.out; have := zlw0.out; have := zs6.out; have := zc6.out; have := zlx0.out; have := zs7.out; have := zc7.out; have := zs8.out; have := zc8.out; have := zs9.out; have := zc9.out; have := zlg0.out; have := zs10.out; have := zc10.out; have := zs11.out; have := zc12.out; have := zc13.out; have := zs14.out; have := zc14.out; have := zs15.out; have := zc15.out; have := zs16.out; have := zc16.out; have := zs17.out; have := zc17.out; have := zs18.out; have := zc18.out; have := zs19.out; have := zc19.out; omega)
    replace hcg0_0 := cell_kept hcg0_0 hk (fun h3_ => by have h4_ : W7.heap.size ≤ w9.heap.size ∧ w9.heap.size < w7.heap.size := h3_; clear h3_; have := zlaM.out; have := zs1.out; have := zc1.out; have := zs2.out; have := zc2.out; have := zs3.out; have := zc3.out; have := zs4.out; have := zc4.out; have := zs5.out; have := zc5.out; have := zlw0.out; have := zs6.out; have := zc6.out; have := zlx0.out; have := zs7.out; have := zc7.out; have := zs8.out; have := zc8.out; have := zs9.out; have := zc9.out; have := zlg0.out; have := zs10.out; have := zc10.out; have := zs11.out; have := zc12.out; have := zc13.out; have := zs14.out; have := zc14.out; have := zs15.out; have := zc15.out; have := zs16.out; have := zc16.out; have := zs17.out; have := zc17.out; have := zs18.out; have := zc18.out; have := zs19.out; have := zc19.out; omega)
    replace HO2_0 := HO2_0.kept hk (fun k_ h1_ h2_ h3_ => by have := zlaM.out; have := zs1.out; have := zc1.out; have := zs2.out; have := zc2.out; have := zs3.out; have := zc3.out; have := zs4.out; have := zc4.out; have := zs5.out; have := zc5.out; have := zlw0.out; have := zs6.out; have := zc6.out; have := zlx0.out; have := zs7.out; have := zc7.out; have := zs8.out; have := zc8.out; have := zs9.out; have := zc9.out; have := zlg0.out; have := zs10.out; have := zc10.out; have := zs11.out; have := zc12.out; have := zc13.out; have := zs14.out; have := zc14.out; have := zs15.out; have := zc15.out; have := zs16.out; have := zc16.out; have := zs17.out; have := zc17.out; have := zs18.out; have := zc18.out; have := zs19.out; have := zc19.out; obtain ⟨h4_, h5_⟩ := h3_; omega)
    replace HO3_0 := HO3_0.kept hk (fun k_ h1_ h2_ h3_ => by have := zlaM.out; have := zs1.out; have := zc1.out; have := zs2.out; have := zc2.out; have := zs3.out; have := zc3.out; have := zs4.out; have := zc4.out; have := zs5.out; have := zc5.out; have := zlw0.out; have := zs6.out; have := zc6.out; have := zlx0.out; have := zs7.out; have := zc7.out; have := zs8.out; have := zc8.out; have := zs9.out; have := zc9.out; have := zlg0.out; have := zs10.out; have := zc10.out; have := zs11.out; have := zc12.out; have := zc13.out; have := zs14.out; have := zc14.out; have := zs15.out; have := zc15.out; have := zs16.out; have := zc16.out; have := zs17.out; have := zc17.out; have := zs18.out; have := zc18.out; have := zs19.out; have := zc19.out; obtain ⟨h4_, h5_⟩ := h3_; omega)
    replace HO4_0 := HO4_0.kept hk (fun k_ h1_ h2_ h3_ => by have := zlaM.out; have := zs1.out; have := zc1.out; have := zs2.out; have := zc2.out; have := zs3.out; have := zc3.out; have := zs4.out; have := zc4.out; have := zs5.out; have := zc5.out; have := zlw0.out; have := zs6.out; have := zc6.out; have := zlx0.out; have := zs7.out; have := zc7.out; have := zs8.out; have := zc8.out; have := zs9.out; have := zc9.out; have := zlg0.out; have := zs10.out; have := zc10.out; have := zs11.out; have := zc12.out; have := zc13.out; have := zs14.out; have := zc14.out; have := zs15.out; have := zc15.out; have := zs16.out; have := zc16.out; have := zs17.out; have := zc17.out; have := zs18.out; have := zc18.out; have := zs19.out; have := zc19.out; obtain ⟨h4_, h5_⟩ := h3_; omega)
    replace HO5_0 := HO5_0.kept hk (fun k_ h1_ h2_ h3_ => by have := zlaM.out; have := zs1.out; have := zc1.out; have := zs2.out; have := zc2.out; have := zs3.out; have := zc3.out; have := zs4.out; have := zc4.out; have := zs5.out; have := zc5.out; have := zlw0.out; have := zs6.out; have := zc6.out; have := zlx0.out; have := zs7.out; have := zc7.out; have := zs8.out; have := zc8.out; have := zs9.out; have := zc9.out; have := zlg0.out; have := zs10.out; have := zc10.out; have := zs11.out; have := zc12.out; have := zc13.out; have := zs14.out; have := zc14.out; have := zs15.out; have := zc15.out; have := zs16.out; have := zc16.out; have := zs17.out; have := zc17.out; have := zs18.out; have := zc18.out; have := zs19.out; have := zc19.out; obtain ⟨h4_, h5_⟩ := h3_; omega)
    replace HO6_0 := HO6_0.kept hk (fun k_ h1_ h2_ h3_ => by have := zlaM.out; have := zs1.out; have := zc1.out; have := zs2.out; have := zc2.out; have := zs3.out; have := zc3.out; have := zs4.out; have := zc4.out; have := zs5.out; have := zc5.out; have := zlw0.out; have := zs6.out; have := zc6.out; have := zlx0.out; have := zs7.out; have := zc7.out; have := zs8.out; have := zc8.out; have := zs9.out; have := zc9.out; have := zlg0.out; have := zs10.out; have := zc10.out; have := zs11.out; have := zc12.out; have := zc13.out; have := zs14.out; have := zc14.out; have := zs15.out; have := zc15.out; have := zs16.out; have := zc16.out; have := zs17.out; have := zc17.out; have := zs18.out; have := zc18.out; have := zs19.out; have := zc19.out; obtain ⟨h4_, h5_⟩ := h3_; omega)
    replace HO8_0 := HO8_0.kept hk (fun k_ h1_ h2_ h3_ => by have := zlaM.out; have := zs1.out; have := zc1.out; have := zs2.out; have := zc2.out; have := zs3.out; have := zc3.out; have := zs4.out; have := zc4.out; have := zs5.out; have := zc5.out; have := zlw0.out; have := zs6.out; have := zc6.out; have := zlx0.out; have := zs7.out; have := zc7.out; have := zs8.out; have := zc8.out; have := zs9.out; have := zc9.out; have := zlg0.out; have := zs10.out; have := zc10.out; have := zs11.out; have := zc12.out; have := zc13.out; have := zs14.out; have := zc14.out; have := zs15.out; have := zc15.out; have := zs16.out; have := zc16.out; have := zs17.out; have := zc17.out; have := zs18.out; have := zc18.out; have := zs19.out; have := zc19.out; obtain ⟨h4_, h5_⟩ := h3_; omega)
    replace HO9_0 := HO9_0.kept hk (fun k_ h1_ h2_ h3_ => by have := zlaM.out; have := zs1.out; have := zc1.out; have := zs2.out; have := zc2.out; have := zs3.out; have := zc3.out; have := zs4.out; have := zc4.out; have := zs5.out; have := zc5.out; have := zlw0.out; have := zs6.out; have := zc6.out; have := zlx0.out; have := zs7.out; have := zc7.out; have := zs8.out; have := zc8.out; have := zs9.out; have := zc9.out; have := zlg0.out; have := zs10.out; have := zc10.out; have := zs11.out; have := zc12.out; have := zc13.out; have := zs14.out; have := zc14.out; have := zs15.out; have := zc15.out; have := zs16.out; have := zc16.out; have := zs17.out; have := zc17.out; have := zs18.out; have := zc18.out; have := zs19.out; have := zc19.out; obtain ⟨h4_, h5_⟩ := h3_; omega)
    replace HO12_0 := HO12_0.kept hk (fun k_ h1_ h2_ h3_ => by have := zlaM.out; have := zs1.out; have := zc1.out; have := zs2.out; have := zc2.out; have := zs3.out; have := zc3.out; have := zs4.out; have := zc4.out; have := zs5.out; have := zc5.out; have := zlw0.out; have := zs6.out; have := zc6.out; have := zlx0.out; have := zs7.out; have := zc7.out; have := zs8.out; have := zc8.out; have := zs9.out; have := zc9.out; have := zlg0.out; have := zs10.out; have := zc10.out; have := zs11.out; have := zc12.out; have := zc13.out; have := zs14.out; have := zc14.out; have := zs15.out; have := zc15.out; have := zs16.out; have := zc16.out; have := zs17.out; have := zc17.out; have := zs18.out; have := zc18.out; have := zs19.out; have := zc19.out; obtain ⟨h4_, h5_⟩ := h3_; omega)
    replace HO14_0 := HO14_0.kept hk (fun k_ h1_ h2_ h3_ => by have := zlaM.out; have := zs1.out; have := zc1.out; have := zs2.out; have := zc2.out; have := zs3.out; have := zc3.out; have := zs4.out; have := zc4.out; have := zs5.out; have := zc5.out; have := zlw0.out; have := zs6.out; have := zc6.out; have := zlx0.out; have := zs7.out; have := zc7.out; have := zs8.out; have := zc8.out; have := zs9.out; have := zc9.out; have := zlg0.out; have := zs10.out; have := zc10.out; have := zs11.out; have := zc12.out; have := zc13.out; have := zs14.out; have := zc14.out; have := zs15.out; have := zc15.out; have := zs16.out; have := zc16.out; have := zs17.out; have := zc17.out; have := zs18.out; have := zc18.out; have := zs19.out; have := zc19.out; obtain ⟨h4_, h5_⟩ := h3_; omega)
    replace HO16_0 := HO16_0.kept hk (fun k_ h1_ h2_ h3_ => by have := zlaM.out; have := zs1.out; have := zc1.out; have := zs2.out; have := zc2.out; have := zs3.out; have := zc3.out; have := zs4.out; have := zc4.out; have := zs5.out; have := zc5.out; have := zlw0.out; have := zs6.out; have := zc6.out; have := zlx0.out; have := zs7.out; have := zc7.out; have := zs8.out; have := zc8.out; have := zs9.out; have := zc9.out; have := zlg0.out; have := zs10.out; have := zc10.out; have := zs11.out; have := zc12.out; have := zc13.out; have := zs14.out; have := zc14.out; have := zs15.out; have := zc15.out; have := zs16.out; have := zc16.out; have := zs17.out; have := zc17.out; have := zs18.out; have := zc18.out; have := zs19.out; have := zc19.out; obtain ⟨h4_, h5_⟩ := h3_; omega)
    replace hlaM : w.heap.size < w19.heap.size := Nat.lt_of_lt_of_le hlaM hk.1
    replace hlw0 : w5.heap.size < w19.heap.size := Nat.lt_of_lt_of_le hlw0 hk.1
    replace hlx0 : w6.heap.size < w19.heap.size := Nat.lt_of_lt_of_le hlx0 hk.1
    replace hlg0 : w9.heap.size < w19.heap.size := Nat.lt_of_lt_of_le hlg0 hk.1
    replace HB := Aside0.mk hB
    clear hB hk
    go_wp2_with fail
    refine calls_named fun W20 hW => ?_
    have hs : Below w19.heap.size w19 W20 := by rw [hW]; repeat (first | exact Below.refl _ _ | apply below_alloc | apply below_drew1 | apply pw_below_drewN)
    clear hW
    replace hcaM_0 := pw_cell_below hs hcaM_0
    replace hcw0_0 := pw_cell_below hs hcw0_0
    replace hcx0_0 := pw_cell_below hs hcx0_0
    replace hcg0_0 := pw_cell_below hs hcg0_0
    replace HO2_0 := HO2_0.below hs
    replace HO3_0 := HO3_0.below hs
    replace HO4_0 := HO4_0.below hs
    replace HO5_0 := HO5_0.below hs
    replace HO6_0 := HO6_0.below hs
    replace HO7_0 := HO7_0.below hs
    replace HO8_0 := HO8_0.below hs
    replace HO9_0 := HO9_0.below hs
    replace HO12_0 := HO12_0.below hs
    replace HO14_0 := HO14_0.below hs
    replace HO16_0 := HO16_0.below hs
    replace hlaM : w.heap.size < W20.heap.size := Nat.lt_of_lt_of_le hlaM hs.size
    replace hlw0 : w5.heap.size < W20.heap.size := Nat.lt_of_lt_of_le hlw0 hs.size
    replace hlx0 : w6.heap.size < W20.heap.size := Nat.lt_of_lt_of_le hlx0 hs.size
    replace hlg0 : w9.heap.size < W20.heap.size := Nat.lt_of_lt_of_le hlg0 hs.size
    replace HB := Aside0.mk (below_on HB.out HB.out.size hs)
    have zs20 := Aside0.mk hs.size
    clear hs
    obtain ⟨kk20, e_20⟩ := HMI.out t_aColumns_0 (1 + ((totSS t_aM_0 : Nat) : Int) + ((t_aRows_0.length : Nat) : Int)) (by have := HT0.out; have := HT1.out; have := HT2.out; omega) (by have := HT0.out; have := HT1.out; have := HT2.out; omega)
    replace e_20 := Aside0.mk e_20
    refine (laws_markIntS.calls kk20 (fun k => W8.heap.size ≤ k ∧ k < w8.heap.size) _ t_aColumns_0 (1 + ((totSS t_aM_0 : Nat) : Int) + ((t_aRows_0.length : Nat) : Int)) _ _ w W20 HB.out HO8_0.out e_20.out).mono ?_
    rintro e w20 ⟨rfl, hS, hB, hk⟩
    clear e_20
    replace HO8_0 := OwnR.marked rfl HO8_0 hS
    clear hS
    have zc20 := Aside0.mk hk.1
    replace hcaM_0 := cell_kept hcaM_0 hk (fun h3_ => by have h4_ : W8.heap.size ≤ w.heap.size ∧ w.heap.size < w8.heap.size := h3_; clear h3_; have := zlaM.out; have := zs1.out; have := zc1.out; have := zs2.out; have := zc2.out; have := zs3.out; have := zc3.out; have := zs4.out; have := zc4.out; have := zs5.out; have := zc5.out; have := zlw0.out; have := zs6.out; have := zc6.out; have := zlx0.out; have := zs7.out; have := zc7.out; have := zs8.out; have := zc8.out; have := zs9.out; have := zc9.out; have := zlg0.out; have := zs10.out; have := zc10.out; have := zs11.out; have := zc12.out; have := zc13.out; have := zs14.out; have := zc14.out; have := zs15.out; have := zc15.out; have := zs16.out; have := zc16.out; have := zs17.out; have := zc17.out; have := zs18.out; have := zc18.out; have := zs19.out; have := zc19.out; have := zs20.out; have := zc20.out; omega)
    replace hcw0_0 := cell_kept hcw0_0 hk (fun h3_ => by have h4_ : W8.heap.size ≤ w5.heap.size ∧ w5.heap.size < w8.heap.size := h3_; clear h3_; have := zlaM.out; have := zs1.out; have := zc1.out; have := zs2.out; have := zc2.out; have := zs3.out; have := zc3.out; have := zs4.out; have := zc4.out; have := zs5.out; have := zc5.out; have := zlw0.out; have := zs6.out; have := zc6.out; have := zlx0.out; have := zs7.out; have := zc7.out; have := zs8.out; have := zc8.out; have := zs9.out; have := zc9.out; have := zlg0.out; have := zs10.out; have := zc10.out; have := zs11.out; have := zc12.out; have := zc13.out; have := zs14.out; have := zc14.out; have := zs15.out; have := zc15.out; have := zs16.out; have := zc16.out; have := zs17.out; have := zc17.out; have := zs18.out; have := zc18.out; have := zs19.out; have := zc19.out; have := zs20.out; have := zc20.out; omega)
    replace hcx0_0 := cell_kept hcx0_0 hk (fun h3_ => by have h4_ : W8.heap.size ≤ w6.heap.size ∧ w6.heap.size < w8.heap.size := h3_; clear h3_; have := zlaM.out; have := zs1.out; have := zc1.out; have := zs2.out; have := zc2.out; have := zs3.out; have := zc3.out; have := zs4.out; have := zc4.out; have := zs5.out; have := zc5.out; have := zlw0.out; have := zs6.out; have := zc6.out; have := zlx0.out; have := zs7.out; have := zc7.out; have := zs8.out; have := zc8.out; have := zs9.out; have := zc9.out; have := zlg0.out; have := zs10.out; have := zc10.out; have := zs11.out; have := zc12.out; have := zc13.out; have := zs14.out; have := zc14.out; have := zs15.out; have := zc15.out; have := zs16.out; have := zc16.out; have := zs17.out; have := zc17.out; have := zs18.out; have := zc18.out; have := zs19.out; have := zc19.out; have := zs20.out; have := zc20.out; omega)
    replace hcg0_0 := cell_kept hcg0_0 hk (fun h3_ => by have h4_ : W8.heap.size ≤ w9.heap.size ∧ w9.heap.size < w8.heap.size := h3_; clear h3_; have := zlaM.out; have := zs1.out; have := zc1.out; have := zs2.out; have := zc2.out; have := zs3.out; have := zc3.out; have := zs4.out; have := zc4.out; have := zs5.out; have := zc5.out; have := zlw0.out; have := zs6.out; have := zc6.out; have := zlx0.out; have := zs7.out; have := zc7.out; have := zs8.out; have := zc8.out; have := zs9.out; have := zc9.out; have := zlg0.out; have := zs10.out; have := zc10.out; have := zs11.out; have := zc12.out; have := zc13.out; have := zs14.out; have := zc14.out; have := zs15.out; have := zc15.out; have := zs16.out; have := zc16.out; have := zs17.out; have := zc17.out; have := zs18.out; have := zc18.out; have := zs19.out; have := zc19.out; have := zs20.out; have := zc20.out; omega)
    replace HO2_0 := HO2_0.kept hk (fun k_ h1_ h2_ h3_ => by have := zlaM.out; have := zs1.out; have := zc1.out; have := zs2.out; have := zc2.out; have := zs3.out; have := zc3.out; have := zs4.out; have := zc4.out; have := zs5.out; have := zc5.out; have := zlw0.out; have := zs6.out; have := zc6.out; have := zlx0.out; have := zs7.out; have := zc7.out; have := zs8.out; have := zc8.out; have := zs9.out; have := zc9.out; have := zlg0.out; have := zs10.out; have := zc10.out; have := zs11.out; have := zc12.out; have := zc13.out; have := zs14.out; have := zc14.out; have := zs15.out; have := zc15.out; have := zs16.out; have := zc16.out; have := zs17.out; have := zc17.out; have := zs18.out; have := zc18.out; have := zs19.out; have := zc19.out; have := zs20.out; have := zc20.out; obtain ⟨h4_, h5_⟩ := h3_; omega)
    replace HO3_0 := HO3_0.kept hk (fun k_ h1_ h2_ h3_ => by have := zlaM.out; have := zs1.out; have := zc1.out; have := zs2.out; have := zc2.out; have := zs3.out; have := zc3.out; have := zs4.out; have := zc4.out; have := zs5.out; have := zc5.out; have := zlw0.out; have := zs6.out; have := zc6.out; have := zlx0.out; have := zs7.out; have := zc7.out; have := zs8.out; have := zc8.out; have := zs9.out; have := zc9.out; have := zlg0.out; have := zs10.out; have := zc10.out; have := zs11.out; have := zc12.out; have := zc13.out; have := zs14.out; have := zc14.out; have := zs15.out; have := zc15.out; have := zs16.out; have := zc16.out; have := zs17.out; have := zc17.out; have := zs18.out; have := zc18.out; have := zs19.out; have := zc19.out; have := zs20.out; have := zc20.out; obtain ⟨h4_, h5_⟩ := h3_; omega)
    replace HO4_0 := HO4_0.kept hk (fun k_ h1_ h2_ h3_ => by have := zlaM.out; have := zs1.out; have := zc1.out; have := zs2.out; have := zc2.out; have := zs3.out; have := zc3.out; have := zs4.out; have := zc4.out; have := zs5.out; have := zc5.out; have := zlw0.out; have := zs6.out; have := zc6.out; have := zlx0.out; have := zs7.out; have := zc7.out; have := zs8.out; have := zc8.out; have := zs9.out; have := zc9.out; have := zlg0.out; have := zs10.out; have := zc10.out; have := zs11.out; have := zc12.out; have := zc13.out; have := zs14.out; have := zc14.out; have := zs15.out; have := zc15.out; have := zs16.out; have := zc16.out; have := zs17.out; have := zc17.out; have := zs18.out; have := zc18.out; have := zs19.out; have := zc19.out; have := zs20.out; have := zc20.out; obtain ⟨h4_, h5_⟩ := h3_; omega)
    replace HO5_0 := HO5_0.kept hk (fun k_ h1_ h2_ h3_ => by have := zlaM.out; have := zs1.out; have := zc1.out; have := zs2.out; have := zc2.out; have := zs3.out; have := zc3.out; have := zs4.out; have := zc4.out; have := zs5.out; have := zc5.out; have := zlw0.out; have := zs6.out; have := zc6.out; have := zlx0.out; have := zs7.out; have := zc7.out; have := zs8.out; have := zc8.out; have := zs9.out; have := zc9.out; have := zlg0.out; have := zs10.out; have := zc10.out; have := zs11.out; have := zc12.out; have := zc13.out; have := zs14.out; have := zc14.out; have := zs15.out; have := zc15.out; have := zs16.out; have := zc16.out; have := zs17.out; have := zc17.out; have := zs18.out; have := zc18.out; have := zs19.out; have := zc19.out; have := zs20.out; have := zc20.out; obtain ⟨h4_, h5_⟩ := h3_; omega)
    replace HO6_0 := HO6_0.kept hk (fun k_ h1_ h2_ h3_ => by have := zlaM.out; have := zs1.out; have := zc1.out; have := zs2.out; have := zc2.out; have := zs3.out; have := zc3.out; have := zs4.out; have := zc4.out; have := zs5.out; have := zc5.out; have := zlw0.out; have := zs6.out; have := zc6.out; have := zlx0.out; have := zs7.out; have := zc7.out; have := zs8.out; have := zc8.out; have := zs9.out; have := zc9.out; have := zlg0.out; have := zs10.out; have := zc10.out; have := zs11.out; have := zc12.out; have := zc13.out; have := zs14.out; have := zc14.out; have := zs15.out; have := zc15.out; have := zs16.out; have := zc16.out; have := zs17.out; have := zc17.out; have := zs18.out; have := zc18.out; have := zs19.out; have := zc19.out; have := zs20.out; have := zc20.out; obtain ⟨h4_, h5_⟩ := h3_; omega)
    replace HO7_0 := HO7_0.kept hk (fun k_ h1_ h2_ h3_ => by have := zlaM.out; have := zs1.out; have := zc1.out; have := zs2.out; have := zc2.out; have := zs3.out; have := zc3.out; have := zs4.out; have := zc4.out; have := zs5.out; have := zc5.out; have := zlw0.out; have := zs6.out; have := zc6.out; have := zlx0.out; have := zs7.out; have := zc7.out; have := zs8.out; have := zc8.out; have := zs9.out; have := zc9.out; have := zlg0.out; have := zs10.out; have := zc10.out; have := zs11.out; have := zc12.out; have := zc13.out; have := zs14.out; have := zc14.out; have := zs15.out; have := zc15.out; have := zs16.out; have := zc16.out; have := zs17.out; have := zc17.out; have := zs18.out; have := zc18.out; have := zs19.out; have := zc19.out; have := zs20.out; have := zc20.out; obtain ⟨h4_, h5_⟩ := h3_; omega)
    replace HO9_0 := HO9_0.kept hk (fun k_ h1_ h2_ h3_ => by have := zlaM.out; have := zs1.out; have := zc1.out; have := zs2.out; have := zc2.out; have := zs3.out; have := zc3.out; have := zs4.out; have := zc4.out; have := zs5.out; have := zc5.out; have := zlw0.out; have := zs6.out; have := zc6.out; have := zlx0.out; have := zs7.out; have := zc7.out; have := zs8.out; have := zc8.out; have := zs9.out; have := zc9.out; have := zlg0.out; have := zs10.out; have := zc10.out; have := zs11.out; have := zc12.out; have := zc13.out; have := zs14.out; have := zc14.out; have := zs15.out; have := zc15.out; have := zs16.out; have := zc16.out; have := zs17.out; have := zc17.out; have := zs18.out; have := zc18.out; have := zs19.out; have := zc19.out; have := zs20.out; have := zc20.out; obtain ⟨h4_, h5_⟩ := h3_; omega)
    replace HO12_0 := HO12_0.kept hk (fun k_ h1_ h2_ h3_ => by have := zlaM.out; have := zs1.out; have := zc1.out; have := zs2.out; have := zc2.out; have := zs3.out; have := zc3.out; have := zs4.out; have := zc4.out; have := zs5.out; have := zc5.out; have := zlw0.out; have := zs6.out; have := zc6.out; have := zlx0.out; have := zs7.out; have := zc7.out; have := zs8.out; have := zc8.out; have := zs9.out; have := zc9.out; have := zlg0.out; have := zs10.out; have := zc10.out; have := zs11.out; have := zc12.out; have := zc13.out; have := zs14.out; have := zc14.out; have := zs15.out; have := zc15.out; have := zs16.out; have := zc16.out; have := zs17.out; have := zc17.out; have := zs18.out; have := zc18.out; have := zs19.out; have := zc19.out; have := zs20.out; have := zc20.out; obtain ⟨h4_, h5_⟩ := h3_; omega)
    replace HO14_0 := HO14_0.kept hk (fun k_ h1_ h2_ h3_ => by have := zlaM.out; have := zs1.out; have := zc1.out; have := zs2.out; have := zc2.out; have := zs3.out; have := zc3.out; have := zs4.out; have := zc4.out; have := zs5.out; have := zc5.out; have := zlw0.out; have := zs6.out; have := zc6.out; have := zlx0.out; have := zs7.out; have := zc7.out; have := zs8.out; have := zc8.out; have := zs9.out; have := zc9.out; have := zlg0.out; have := zs10.out; have := zc10.out; have := zs11.out; have := zc12.out; have := zc13.out; have := zs14.out; have := zc14.out; have := zs15.out; have := zc15.out; have := zs16.out; have := zc16.out; have := zs17.out; have := zc17.out; have := zs18.out; have := zc18.out; have := zs19.out; have := zc19.out; have := zs20.out; have := zc20.out; obtain ⟨h4_, h5_⟩ := h3_; omega)
    replace HO16_0 := HO16_0.kept hk (fun k_ h1_ h2_ h3_ => by have := zlaM.out; have := zs1.out; have := zc1.out; have := zs2.out; have := zc2.out; have := zs3.out; have := zc3.out; have := zs4.out; have := zc4.out; have := zs5.out; have := zc5.out; have := zlw0.out; have := zs6.out; have := zc6.out; have := zlx0.out; have := zs7.out; have := zc7.out; have := zs8.out; have := zc8.out; have := zs9.out; have := zc9.out; have := zlg0.out; have := zs10.out; have := zc10.out; have := zs11.out; have := zc12.out; have := zc13.out; have := zs14.out; have := zc14.out; have := zs15.out; have := zc15.out; have := zs16.out; have := zc16.out; have := zs17.out; have := zc17.out; have := zs18.out; have := zc18.out; have := zs19.out; have := zc19.out; have := zs20.out; have := zc20.out; obtain ⟨h4_, h5_⟩ := h3_; omega)
    replace hlaM : w.heap.size < w20.heap.size := Nat.lt_of_lt_of_le hlaM hk.1
    replace hlw0 : w5.heap.size < w20.heap.size := Nat.lt_of_lt_of_le hlw0 hk.1
    replace hlx0 : w6.heap.size < w20.heap.size := Nat.lt_of_lt_of_le hlx0 hk.1
    replace hlg0 : w9.heap.size < w20.heap.size := Nat.lt_of_lt_of_le hlg0 hk.1
    replace HB := Aside0.mk hB
    clear hB hk
    go_wp2_with fail
    refine calls_named fun W21 hW => ?_
    have hs : Below w20.heap.size w20 W21 := by rw [hW]; repeat (first | exact Below.refl _ _ | apply below_alloc | apply below_drew1 | apply pw_below_drewN)
    clear hW
    replace hcaM_0 := pw_cell_below hs hcaM_0
    replace hcw0_0 := pw_cell_below hs hcw0_0
    replace hcx0_0 := pw_cell_below hs hcx0_0
    replace hcg0_0 := pw_cell_below hs hcg0_0
    replace HO2_0 := HO2_0.below hs
    replace HO3_0 := HO3_0.below hs
    replace HO4_0 := HO4_0.below hs
    replace HO5_0 := HO5_0.below hs
    replace HO6_0 := HO6_0.below hs
    replace HO7_0 := HO7_0.below hs
    replace HO8_0 := HO8_0.below hs
    replace HO9_0 := HO9_0.below hs
    replace HO12_0 := HO12_0.below hs
    replace HO14_0 := HO14_0.below hs
    replace HO16_0 := HO16_0.below hs
    replace hlaM : w.heap.size < W21.heap.size := Nat.lt_of_lt_of_le hlaM hs.size
    replace hlw0 : w5.heap.size < W21.heap.size := Nat.lt_of_lt_of_le hlw0 hs.size
    replace hlx0 : w6.heap.size < W21.heap.size := Nat.lt_of_lt_of_le hlx0 hs.size
    replace hlg0 : w9.heap.size < W21.heap.size := Nat.lt_of_lt_of_le hlg0 hs.size
    replace HB := Aside0.mk (below_on HB.out HB.out.size hs)
    have zs21 := Aside0.mk hs.size
    clear hs
    obtain ⟨kk21, e_21⟩ := E10.out
    replace e_21 := Aside0.mk e_21
    refine (laws_eqMatrix.calls kk21 _ _ r_0 _ _ r_0 true W21 HO9_0.C HO9_0.cap HO5_0.C HO5_0.cap e_21.out).mono ?_
    rintro e w21 ⟨rfl, hb⟩
    clear e_21
    have zc21 := Aside0.mk hb.size
    replace hcaM_0 := pw_cell_below hb hcaM_0
    replace hcw0_0 := pw_cell_below hb hcw0_0
    replace hcx0_0 := pw_cell_below hb hcx0_0
    replace hcg0_0 := pw_cell_below hb hcg0_0
    replace HO2_0 := HO2_0.below hb
    replace HO3_0 := HO3_0.below hb
    replace HO4_0 := HO4_0.below hb
    replace HO5_0 := HO5_0.below hb
    replace HO6_0 := HO6_0.below hb
    replace HO7_0 := HO7_0.below hb
    replace HO8_0 := HO8_0.below hb
    replace HO9_0 := HO9_0.below hb
    replace HO12_0 := HO12_0.below hb
    replace HO14_0 := HO14_0.below hb
    replace HO16_0 := HO16_0.below hb
    replace hlaM : w.heap.size < w21.heap.size := Nat.lt_of_lt_of_le hlaM hb.size
    replace hlw0 : w5.heap.size < w21.heap.size := Nat.lt_of_lt_of_le hlw0 hb.size
    replace hlx0 : w6.heap.size < w21.heap.size := Nat.lt_of_lt_of_le hlx0 hb.size
    replace hlg0 : w9.heap.size < w21.heap.size := Nat.lt_of_lt_of_le hlg0 hb.size
    replace HB := Aside0.mk (below_on HB.out HB.out.size hb)
    clear hb
    go_wp2_with fail
    refine calls_named fun W22 hW => ?_
    have hs : Below w21.heap.size w21 W22 := by rw [hW]; repeat (first | exact Below.refl _ _ | apply below_alloc | apply below_drew1 | apply pw_below_drewN)
    clear hW
    replace hcaM_0 := pw_cell_below hs hcaM_0
    replace hcw0_0 := pw_cell_below hs hcw0_0
    replace hcx0_0 := pw_cell_below hs hcx0_0
    replace hcg0_0 := pw_cell_below hs hcg0_0
    replace HO2_0 := HO2_0.below hs
    replace HO3_0 := HO3_0.below hs
    replace HO4_0 := HO4_0.below hs
    replace HO5_0 := HO5_0.below hs
    replace HO6_0 := HO6_0.below hs
    replace HO7_0 := HO7_0.below hs
    replace HO8_0 := HO8_0.below hs
    replace HO9_0 := HO9_0.below hs
    replace HO12_0 := HO12_0.below hs
    replace HO14_0 := HO14_0.below hs
    replace HO16_0 := HO16_0.below hs
    replace hlaM : w.heap.size < W22.heap.size := Nat.lt_of_lt_of_le hlaM hs.size
    replace hlw0 : w5.heap.size < W22.heap.size := Nat.lt_of_lt_of_le hlw0 hs.size
    replace hlx0 : w6.heap.size < W22.heap.size := Nat.lt_of_lt_of_le hlx0 hs.size
    replace hlg0 : w9.heap.size < W22.heap.size := Nat.lt_of_lt_of_le hlg0 hs.size
    replace HB := Aside0.mk (below_on HB.out HB.out.size hs)
    have zs22 := Aside0.mk hs.size
    clear hs
    refine (laws_markMatrix.calls (fun k => W9.heap.size ≤ k ∧ k < w9.heap.size) _ r_0 1 w W22 HB.out HO9_0.out HMB.out (by have := HT0.out; have := HT1.out; have := HT2.out; have := HT3.out; omega) (by have := HT0.out; have := HT1.out; have := HT2.out; have := HT3.out; omega) (by have := HT0.out; have := HT1.out; have := HT2.out; have := HT3.out; omega)).mono ?_
    rintro e w22 ⟨rfl, hS, hB, hk⟩
    replace HO9_0 := OwnS.mk hS
    clear hS
    have zc22 := Aside0.mk hk.1
    replace hcaM_0 := cell_kept hcaM_0 hk (fun h3_ => by have h4_ : W9.heap.size ≤ w.heap.size ∧ w.heap.size < w9.heap.size := h3_; clear h3_; have := zlaM.out; have := zs1.out; have := zc1.out; have := zs2.out; have := zc2.out; have := zs3.out; have := zc3.out; have := zs4.out; have := zc4.out; have := zs5.out; have := zc5.out; have := zlw0.out; have := zs6.out; have := zc6.out; have := zlx0.out; have := zs7.out; have := zc7.out; have := zs8.out; have := zc8.out; have := zs9.out; have := zc9.out; have := zlg0.out; have := zs10.out; have := zc10.out; have := zs11.out; have := zc12.out; have := zc13.out; have := zs14.out; have := zc14.out; have := zs15.out; have := zc15.out; have := zs16.out; have := zc16.out; have := zs17.out; have := zc17.out; have := zs18.out; have := zc18.out; have := zs19.out; have := zc19.out; have := zs20.out; have := zc20.out; have := zs21.out; have := zc21.out; have := zs22.out; have := zc22.out; omega)
    replace hcw0_0 := cell_kept hcw0_0 hk (fun h3_ => by have h4_ : W9.heap.size ≤ w5.heap.size ∧ w5.heap.size < w9.heap.size := h3_; clear h3_; have := zlaM.out; have := zs1.out; have := zc1.out; have := zs2.out; have := zc2.out; have := zs3.out; have := zc3.out; have := zs4.out; have := zc4.out; have := zs5.out; have := zc5.out; have := zlw0.out; have := zs6.out; have := zc6.out; have := zlx0.out; have := zs7.out; have := zc7.out; have := zs8.out; have := zc8.out; have := zs9.out; have := zc9.out; have := zlg0.out; have := zs10.out; have := zc10.out; have := zs11.out; have := zc12.out; have := zc13.out; have := zs14.out; have := zc14.out; have := zs15.out; have := zc15.out; have := zs16.out; have := zc16.out; have := zs17.out; have := zc17.out; have := zs18.out; have := zc18.out; have := zs19.out; have := zc19.out; have := zs20.out; have := zc20.out; have := zs21.out; have := zc21.out; have := zs22.out; have := zc22.out; omega)
    replace hcx0_0 := cell_kept hcx0_0 hk (fun h3_ => by have h4_ : W9.heap.size ≤ w6.heap.size ∧ w6.heap.size < w9.heap.size := h3_; clear h3_; have := zlaM.out; have := zs1.out; have := zc1.out; have := zs2.out; have := zc2.out; have := zs3.out; have := zc3.out; have := zs4.out; have := zc4.out; have := zs5.out; have := zc5.out; have := zlw0.out; have := zs6.out; have := zc6.out; have := zlx0.out; have := zs7.out; have := zc7.out; have := zs8.out; have := zc8.out; have := zs9.out; have := zc9.out; have := zlg0.out; have := zs10.out; have := zc10.out; have := zs11.out; have := zc12.out; have := zc13.out; have := zs14.out; have := zc14.out; have := zs15.out; have := zc15.out; have := zs16.out; have := zc16.out; have := zs17.out; have := zc17.out; have := zs18.out; have := zc18.out; have := zs19.out; have := zc19.out; have := zs20.out; have := zc20.out; have := zs21.out; have := zc21.out; have := zs22.out; have := zc22.out; omega)
    replace hcg0_0 := cell_kept hcg0_0 hk (fun h3_ => by have h4_ : W9.heap.size ≤ w9.heap.size ∧ w9.heap.size < w9.heap.size := h3_; clear h3_; have := zlaM.out; have := zs1.out; have := zc1.out; have := zs2.out; have := zc2.out; have := zs3.out; have := zc3.out; have := zs4.out; have := zc4.out; have := zs5.out; have := zc5.out; have := zlw0.out; have := zs6.out; have := zc6.out; have := zlx0.out; have := zs7.out; have := zc7.out; have := zs8.out; have := zc8.out; have := zs9.out; have := zc9.out; have := zlg0.out; have := zs10.out; have := zc10.out; have := zs11.out; have := zc12.out; have := zc13.out; have := zs14.out; have := zc14.out; have := zs15.out; have := zc15.out; have := zs16.out; have := zc16.out; have := zs17.out; have := zc17.out; have := zs18.out; have := zc18.out; have := zs19.out; have := zc19.out; have := zs20.out; have := zc20.out; have := zs21.out; have := zc21.out; have := zs22.out; have := zc22.out; omega)
    replace HO2_0 := HO2_0.kept hk (fun k_ h1_ h2_ h3_ => by have := zlaM.out; have := zs1.out; have := zc1.out; have := zs2.out; have := zc2.out; have := zs3.out; have := zc3.out; have := zs4.out; have := zc4.out; have := zs5.out; have := zc5.out; have := zlw0.out; have := zs6.out; have := zc6.out; have := zlx0.out; have := zs7.out; have := zc7.out; have := zs8.out; have := zc8.out; have := zs9.out; have := zc9.out; have := zlg0.out; have := zs10.out; have := zc10.out; have := zs11.out; have := zc12.out; have := zc13.out; have := zs14.out; have := zc14.out; have := zs15.out; have := zc15.out; have := zs16.out; have := zc16.out; have := zs17.out; have := zc17.out; have := zs18.out; have := zc18.out; have := zs19.out; have := zc19.out; have := zs20.out; have := zc20.out; have := zs21.out; have := zc21.out; have := zs22.out; have := zc22.out; obtain ⟨h4_, h5_⟩ := h3_; omega)
    replace HO3_0 := HO3_0.kept hk (fun k_ h1_ h2_ h3_ => by have := zlaM.out; have := zs1.out; have := zc1.out; have := zs2.out; have := zc2.out; have := zs3.out; have := zc3.out; have := zs4.out; have := zc4.out; have := zs5.out; have := zc5.out; have := zlw0.out; have := zs6.out; have := zc6.out; have := zlx0.out; have := zs7.out; have := zc7.out; have := zs8.out; have := zc8.out; have := zs9.out; have := zc9.out; have := zlg0.out; have := zs10.out; have := zc10.out; have := zs11.out; have := zc12.out; have := zc13.out; have := zs14.out; have := zc14.out; have := zs15.out; have := zc15.out; have := zs16.out; have := zc16.out; have := zs17.out; have := zc17.out; have := zs18.out; have := zc18.out; have := zs19.out; have := zc19.out; have := zs20.out; have := zc20.out; have := zs21.out; have := zc21.out; have := zs22.out; have := zc22.out; obtain ⟨h4_, h5_⟩ := h3_; omega)
    replace HO4_0 := HO4_0.kept hk (fun k_ h1_ h2_ h3_ => by have := zlaM.out; have := zs1.out; have := zc1.out; have := zs2.out; have := zc2.out; have := zs3.out; have := zc3.out; have := zs4.out; have := zc4.out; have := zs5.out; have := zc5.out; have := zlw0.out; have := zs6.out; have := zc6.out; have := zlx0.out; have := zs7.out; have := zc7.out; have := zs8.out; have := zc8.out; have := zs9.out; have := zc9.out; have := zlg0.out; have := zs10.out; have := zc10.out; have := zs11.out; have := zc12.out; have := zc13.out; have := zs14.out; have := zc14.out; have := zs15.out; have := zc15.out; have := zs16.out; have := zc16.out; have := zs17.out; have := zc17.out; have := zs18.out; have := zc18.out; have := zs19.out; have := zc19.out; have := zs20.out; have := zc20.out; have := zs21.out; have := zc21.out; have := zs22.out; have := zc22.out; obtain ⟨h4_, h5_⟩ := h3_; omega)
    replace HO5_0 := HO5_0.kept hk (fun k_ h1_ h2_ h3_ => by have := zlaM.out; have := zs1.out; have := zc1.out; have := zs2.out; have := zc2.out; have := zs3.out; have := zc3.out; have := zs4.out; have := zc4.out; have := zs5.out; have := zc5.out; have := zlw0.out; have := zs6.out; have := zc6.out; have := zlx0.out; have := zs7.out; have := zc7.out; have := zs8.out; have := zc8.out; have := zs9.out; have := zc9.out; have := zlg0.out; have := zs10.out; have := zc10.out; have := zs11.out; have := zc12.out; have := zc13.out; have := zs14.out; have := zc14.out; have := zs15.out; have := zc15.out; have := zs16.out; have := zc16.out; have := zs17.out; have := zc17.out; have := zs18.out; have := zc18.out; have := zs19.out; have := zc19.out; have := zs20.out; have := zc20.out; have := zs21.out; have := zc21.out; have := zs22.out; have := zc22.out; obtain ⟨h4_, h5_⟩ := h3_; omega)
    replace HO6_0 := HO6_0.kept hk (fun k_ h1_ h2_ h3_ => by have := zlaM.out; have := zs1.out; have := zc1.out; have := zs2.out; have := zc2.out; have := zs3.out; have := zc3.out; have := zs4.out; have := zc4.out; have := zs5.out; have := zc5.out; have := zlw0.out; have := zs6.out; have := zc6.out; have := zlx0.out; have := zs7.out; have := zc7.out; have := zs8.out; have := zc8.out; have := zs9.out; have := zc9.out; have := zlg0.out; have := zs10.out; have := zc10.out; have := zs11.out; have := zc12.out; have := zc13.out; have := zs14.out; have := zc14.out; have := zs15.out; have := zc15.out; have := zs16.out; have := zc16.out; have := zs17.out; have := zc17.out; have := zs18.out; have := zc18.out; have := zs19.out; have := zc19.out; have := zs20.out; have := zc20.out; have := zs21.out; have := zc21.out; have := zs22.out; have := zc22.out; obtain ⟨h4_, h5_⟩ := h3_; omega)
    replace HO7_0 := HO7_0.kept hk (fun k_ h1_ h2_ h3_ => by have := zlaM.out; have := zs1.out; have := zc1.out; have := zs2.out; have := zc2.out; have := zs3.out; have := zc3.out; have := zs4.out; have := zc4.out; have := zs5.out; have := zc5.out; have := zlw0.out; have := zs6.out; have := zc6.out; have := zlx0.out; have := zs7.out; have := zc7.out; have := zs8.out; have := zc8.out; have := zs9.out; have := zc9.out; have := zlg0.out; have := zs10.out; have := zc10.out; have := zs11.out; have := zc12.out; have := zc13.out; have := zs14.out; have := zc14.out; have := zs15.out; have := zc15.out; have := zs16.out; have := zc16.out; have := zs17.out; have := zc17.out; have := zs18.out; have := zc18.out; have := zs19.out; have := zc19.out; have := zs20.out; have := zc20.out; have := zs21.out; have := zc21.out; have := zs22.out; have := zc22.out; obtain ⟨h4_, h5_⟩ := h3_; omega)
    replace HO8_0 := HO8_0.kept hk (fun k_ h1_ h2_ h3_ => by have := zlaM.out; have := zs1.out; have := zc1.out; have := zs2.out; have := zc2.out; have := zs3.out; have := zc3.out; have := zs4.out; have := zc4.out; have := zs5.out; have := zc5.out; have := zlw0.out; have := zs6.out; have := zc6.out; have := zlx0.out; have := zs7.out; have := zc7.out; have := zs8.out; have := zc8.out; have := zs9.out; have := zc9.out; have := zlg0.out; have := zs10.out; have := zc10.out; have := zs11.out; have := zc12.out; have := zc13.out; have := zs14.out; have := zc14.out; have := zs15.out; have := zc15.out; have := zs16.out; have := zc16.out; have := zs17.out; have := zc17.out; have := zs18.out; have := zc18.out; have := zs19.out; have := zc19.out; have := zs20.out; have := zc20.out; have := zs21.out; have := zc21.out; have := zs22.out; have := zc22.out; obtain ⟨h4_, h5_⟩ := h3_; omega)
    replace HO12_0 := HO12_0.kept hk (fun k_ h1_ h2_ h3_ => by have := zlaM.out; have := zs1.out; have := zc1.out; have := zs2.out; have := zc2.out; have := zs3.out; have := zc3.out; have := zs4.out; have := zc4.out; have := zs5.out; have := zc5.out; have := zlw0.out; have := zs6.out; have := zc6.out; have := zlx0.out; have := zs7.out; have := zc7.out; have := zs8.out; have := zc8.out; have := zs9.out; have := zc9.out; have := zlg0.out; have := zs10.out; have := zc10.out; have := zs11.out; have := zc12.out; have := zc13.out; have := zs14.out; have := zc14.out; have := zs15.out; have := zc15.out; have := zs16.out; have := zc16.out; have := zs17.out; have := zc17.out; have := zs18.out; have := zc18.out; have := zs19.out; have := zc19.out; have := zs20.out; have := zc20.out; have := zs21.out; have := zc21.out; have := zs22.out; have := zc22.out; obtain ⟨h4_, h5_⟩ := h3_; omega)
    replace HO14_0 := HO14_0.kept hk (fun k_ h1_ h2_ h3_ => by have := zlaM.out; have := zs1.out; have := zc1.out; have := zs2.out; have := zc2.out; have := zs3.out; have := zc3.out; have := zs4.out; have := zc4.out; have := zs5.out; have := zc5.out; have := zlw0.out; have := zs6.out; have := zc6.out; have := zlx0.out; have := zs7.out; have := zc7.out; have := zs8.out; have := zc8.out; have := zs9.out; have := zc9.out; have := zlg0.out; have := zs10.out; have := zc10.out; have := zs11.out; have := zc12.out; have := zc13.out; have := zs14.out; have := zc14.out; have := zs15.out; have := zc15.out; have := zs16.out; have := zc16.out; have := zs17.out; have := zc17.out; have := zs18.out; have := zc18.out; have := zs19.out; have := zc19.out; have := zs20.out; have := zc20.out; have := zs21.out; have := zc21.out; have := zs22.out; have := zc22.out; obtain ⟨h4_, h5_⟩ := h3_; omega)
    replace HO16_0 := HO16_0.kept hk (fun k_ h1_ h2_ h3_ => by have := zlaM.out; have := zs1.out; have := zc1.out; have := zs2.out; have := zc2.out; have := zs3.out; have := zc3.out; have := zs4.out; have := zc4.out; have := zs5.out; have := zc5.out; have := zlw0.out; have := zs6.out; have := zc6.out; have := zlx0.out; have := zs7.out; have := zc7.out; have := zs8.out; have := zc8.out; have := zs9.out; have := zc9.out; have := zlg0.out; have := zs10.out; have := zc10.out; have := zs11.out; have := zc12.out; have := zc13.out; have := zs14.out; have := zc14.out; have := zs15.out; have := zc15.out; have := zs16.out; have := zc16.out; have := zs17.out; have := zc17.out; have := zs18.out; have := zc18.out; have := zs19.out; have := zc19.out; have := zs20.out; have := zc20.out; have := zs21.out; have := zc21.out; have := zs22.out; have := zc22.out; obtain ⟨h4_, h5_⟩ := h3_; omega)
    replace hlaM : w.heap.size < w22.heap.size := Nat.lt_of_lt_of_le hlaM hk.1
    replace hlw0 : w5.heap.size < w22.heap.size := Nat.lt_of_lt_of_le hlw0 hk.1
    replace hlx0 : w6.heap.size < w22.heap.size := Nat.lt_of_lt_of_le hlx0 hk.1
    replace hlg0 : w9.heap.size < w22.heap.size := Nat.lt_of_lt_of_le hlg0 hk.1
    replace HB := Aside0.mk hB
    clear hB hk
    go_wp2_with fail
    refine calls_named fun W23 hW => ?_
    have hs : Below w22.heap.size w22 W23 := by rw [hW]; repeat (first | exact Below.refl _ _ | apply below_alloc | apply below_drew1 | apply pw_below_drewN)
    clear hW
    replace hcaM_0 := pw_cell_below hs hcaM_0
    replace hcw0_0 := pw_cell_below hs hcw0_0
    replace hcx0_0 := pw_cell_below hs hcx0_0
    replace hcg0_0 := pw_cell_below hs hcg0_0
    replace HO2_0 := HO2_0.below hs
    replace HO3_0 := HO3_0.below hs
    replace HO4_0 := HO4_0.below hs
    replace HO5_0 := HO5_0.below hs
    replace HO6_0 := HO6_0.below hs
    replace HO7_0 := HO7_0.below hs
    replace HO8_0 := HO8_0.below hs
    replace HO9_0 := HO9_0.below hs
    replace HO12_0 := HO12_0.below hs
    replace HO14_0 := HO14_0.below hs
    replace HO16_0 := HO16_0.below hs
    replace hlaM : w.heap.size < W23.heap.size := Nat.lt_of_lt_of_le hlaM hs.size
    replace hlw0 : w5.heap.size < W23.heap.size := Nat.lt_of_lt_of_le hlw0 hs.size
    replace hlx0 : w6.heap.size < W23.heap.size := Nat.lt_of_lt_of_le hlx0 hs.size
    replace hlg0 : w9.heap.size < W23.heap.size := Nat.lt_of_lt_of_le hlg0 hs.size
    replace HB := Aside0.mk (below_on HB.out HB.out.size hs)
    have zs23 := Aside0.mk hs.size
    clear hs
    obtain ⟨kk23, e_23⟩ := E14.out
    replace e_23 := Aside0.mk e_23
    refine calls_of_args (args' := #[.agg #[.slice A9_0 (markSS 1 r_0).length c9_0], .int .i64 1]) (by simp [markSS_length, markB_length, markI_length]) ?_
    refine (laws_heldMatrix.calls kk23 _ _ (markSS 1 r_0) 1 (1 + ((totSS r_0 : Nat) : Int)) W23 HO9_0.C HO9_0.cap e_23.out).mono ?_
    rintro e w23 ⟨rfl, hb⟩
    clear e_23
    have zc23 := Aside0.mk hb.size
    replace hcaM_0 := pw_cell_below hb hcaM_0
    replace hcw0_0 := pw_cell_below hb hcw0_0
    replace hcx0_0 := pw_cell_below hb hcx0_0
    replace hcg0_0 := pw_cell_below hb hcg0_0
    replace HO2_0 := HO2_0.below hb
    replace HO3_0 := HO3_0.below hb
    replace HO4_0 := HO4_0.below hb
    replace HO5_0 := HO5_0.below hb
    replace HO6_0 := HO6_0.below hb
    replace HO7_0 := HO7_0.below hb
    replace HO8_0 := HO8_0.below hb
    replace HO9_0 := HO9_0.below hb
    replace HO12_0 := HO12_0.below hb
    replace HO14_0 := HO14_0.below hb
    replace HO16_0 := HO16_0.below hb
    replace hlaM : w.heap.size < w23.heap.size := Nat.lt_of_lt_of_le hlaM hb.size
    replace hlw0 : w5.heap.size < w23.heap.size := Nat.lt_of_lt_of_le hlw0 hb.size
    replace hlx0 : w6.heap.size < w23.heap.size := Nat.lt_of_lt_of_le hlx0 hb.size
    replace hlg0 : w9.heap.size < w23.heap.size := Nat.lt_of_lt_of_le hlg0 hb.size
    replace HB := Aside0.mk (below_on HB.out HB.out.size hb)
    clear hb
    go_wp2_with fail
    refine calls_named fun W24 hW => ?_
    have hs : Below w23.heap.size w23 W24 := by rw [hW]; repeat (first | exact Below.refl _ _ | apply below_alloc | apply below_drew1 | apply pw_below_drewN)
    clear hW
    replace hcaM_0 := pw_cell_below hs hcaM_0
    replace hcw0_0 := pw_cell_below hs hcw0_0
    replace hcx0_0 := pw_cell_below hs hcx0_0
    replace hcg0_0 := pw_cell_below hs hcg0_0
    replace HO2_0 := HO2_0.below hs
    replace HO3_0 := HO3_0.below hs
    replace HO4_0 := HO4_0.below hs
    replace HO5_0 := HO5_0.below hs
    replace HO6_0 := HO6_0.below hs
    replace HO7_0 := HO7_0.below hs
    replace HO8_0 := HO8_0.below hs
    replace HO9_0 := HO9_0.below hs
    replace HO12_0 := HO12_0.below hs
    replace HO14_0 := HO14_0.below hs
    replace HO16_0 := HO16_0.below hs
    replace hlaM : w.heap.size < W24.heap.size := Nat.lt_of_lt_of_le hlaM hs.size
    replace hlw0 : w5.heap.size < W24.heap.size := Nat.lt_of_lt_of_le hlw0 hs.size
    replace hlx0 : w6.heap.size < W24.heap.size := Nat.lt_of_lt_of_le hlx0 hs.size
    replace hlg0 : w9.heap.size < W24.heap.size := Nat.lt_of_lt_of_le hlg0 hs.size
    replace HB := Aside0.mk (below_on HB.out HB.out.size hs)
    have zs24 := Aside0.mk hs.size
    clear hs
    obtain ⟨kk24, e_24⟩ := E2.out
    replace e_24 := Aside0.mk e_24
    refine (laws_toMatrix.calls kk24 _ _ l0_0 t_aM_0 W24 (Kd.C_below HR0_0.out HB.out) HC0_0.out e_24.out).mono ?_
    rintro e w24 ⟨v24_0, rfl, h24_0, hb⟩
    clear e_24
    have HO24_0 := OwnS.new (b := w.heap.size) h24_0 HB.out.size
    clear h24_0
    have zc24 := Aside0.mk hb.size
    replace hcaM_0 := pw_cell_below hb hcaM_0
    replace hcw0_0 := pw_cell_below hb hcw0_0
    replace hcx0_0 := pw_cell_below hb hcx0_0
    replace hcg0_0 := pw_cell_below hb hcg0_0
    replace HO2_0 := HO2_0.below hb
    replace HO3_0 := HO3_0.below hb
    replace HO4_0 := HO4_0.below hb
    replace HO5_0 := HO5_0.below hb
    replace HO6_0 := HO6_0.below hb
    replace HO7_0 := HO7_0.below hb
    replace HO8_0 := HO8_0.below hb
    replace HO9_0 := HO9_0.below hb
    replace HO12_0 := HO12_0.below hb
    replace HO14_0 := HO14_0.below hb
    replace HO16_0 := HO16_0.below hb
    replace hlaM : w.heap.size < w24.heap.size := Nat.lt_of_lt_of_le hlaM hb.size
    replace hlw0 : w5.heap.size < w24.heap.size := Nat.lt_of_lt_of_le hlw0 hb.size
    replace hlx0 : w6.heap.size < w24.heap.size := Nat.lt_of_lt_of_le hlx0 hb.size
    replace hlg0 : w9.heap.size < w24.heap.size := Nat.lt_of_lt_of_le hlg0 hb.size
    replace HB := Aside0.mk (below_on HB.out HB.out.size hb)
    clear hb
    obtain ⟨A24_0, c24_0, rfl⟩ := HO24_0.slice
    go_wp2_with fail
    refine calls_named fun W25 hW => ?_
    have hs : Below w24.heap.size w24 W25 := by rw [hW]; repeat (first | exact Below.refl _ _ | apply below_alloc | apply below_drew1 | apply pw_below_drewN)
    clear hW
    replace hcaM_0 := pw_cell_below hs hcaM_0
    replace hcw0_0 := pw_cell_below hs hcw0_0
    replace hcx0_0 := pw_cell_below hs hcx0_0
    replace hcg0_0 := pw_cell_below hs hcg0_0
    replace HO2_0 := HO2_0.below hs
    replace HO3_0 := HO3_0.below hs
    replace HO4_0 := HO4_0.below hs
    replace HO5_0 := HO5_0.below hs
    replace HO6_0 := HO6_0.below hs
    replace HO7_0 := HO7_0.below hs
    replace HO8_0 := HO8_0.below hs
    replace HO9_0 := HO9_0.below hs
    replace HO12_0 := HO12_0.below hs
    replace HO14_0 := HO14_0.below hs
    replace HO16_0 := HO16_0.below hs
    replace HO24_0 := HO24_0.below hs
    replace hlaM : w.heap.size < W25.heap.size := Nat.lt_of_lt_of_le hlaM hs.size
    replace hlw0 : w5.heap.size < W25.heap.size := Nat.lt_of_lt_of_le hlw0 hs.size
    replace hlx0 : w6.heap.size < W25.heap.size := Nat.lt_of_lt_of_le hlx0 hs.size
    replace hlg0 : w9.heap.size < W25.heap.size := Nat.lt_of_lt_of_le hlg0 hs.size
    replace HB := Aside0.mk (below_on HB.out HB.out.size hs)
    have zs25 := Aside0.mk hs.size
    clear hs
    obtain ⟨kk25, e_25⟩ := E4.out
    replace e_25 := Aside0.mk e_25
    refine (laws_toIntS.calls kk25 _ _ l1 t_aRows_0 W25 (Kd.C_below HR1.out HB.out) HC1.out e_25.out).mono ?_
    rintro e w25 ⟨v25_0, rfl, h25_0, hb⟩
    clear e_25
    have HO25_0 := OwnR.new (b := w.heap.size) h25_0 HB.out.size
    clear h25_0
    have zc25 := Aside0.mk hb.size
    replace hcaM_0 := pw_cell_below hb hcaM_0
    replace hcw0_0 := pw_cell_below hb hcw0_0
    replace hcx0_0 := pw_cell_below hb hcx0_0
    replace hcg0_0 := pw_cell_below hb hcg0_0
    replace HO2_0 := HO2_0.below hb
    replace HO3_0 := HO3_0.below hb
    replace HO4_0 := HO4_0.below hb
    replace HO5_0 := HO5_0.below hb
    replace HO6_0 := HO6_0.below hb
    replace HO7_0 := HO7_0.below hb
    replace HO8_0 := HO8_0.below hb
    replace HO9_0 := HO9_0.below hb
    replace HO12_0 := HO12_0.below hb
    replace HO14_0 := HO14_0.below hb
    replace HO16_0 := HO16_0.below hb
    replace HO24_0 := HO24_0.below hb
    replace hlaM : w.heap.size < w25.heap.size := Nat.lt_of_lt_of_le hlaM hb.size
    replace hlw0 : w5.heap.size < w25.heap.size := Nat.lt_of_lt_of_le hlw0 hb.size
    replace hlx0 : w6.heap.size < w25.heap.size := Nat.lt_of_lt_of_le hlx0 hb.size
    replace hlg0 : w9.heap.size < w25.heap.size := Nat.lt_of_lt_of_le hlg0 hb.size
    replace HB := Aside0.mk (below_on HB.out HB.out.size hb)
    clear hb
    obtain ⟨A25_0, c25_0, rfl⟩ := HO25_0.slice
    go_wp2_with fail
    refine calls_named fun W26 hW => ?_
    have hs : Below w25.heap.size w25 W26 := by rw [hW]; repeat (first | exact Below.refl _ _ | apply below_alloc | apply below_drew1 | apply pw_below_drewN)
    clear hW
    replace hcaM_0 := pw_cell_below hs hcaM_0
    replace hcw0_0 := pw_cell_below hs hcw0_0
    replace hcx0_0 := pw_cell_below hs hcx0_0
    replace hcg0_0 := pw_cell_below hs hcg0_0
    replace HO2_0 := HO2_0.below hs
    replace HO3_0 := HO3_0.below hs
    replace HO4_0 := HO4_0.below hs
    replace HO5_0 := HO5_0.below hs
    replace HO6_0 := HO6_0.below hs
    replace HO7_0 := HO7_0.below hs
    replace HO8_0 := HO8_0.below hs
    replace HO9_0 := HO9_0.below hs
    replace HO12_0 := HO12_0.below hs
    replace HO14_0 := HO14_0.below hs
    replace HO16_0 := HO16_0.below hs
    replace HO24_0 := HO24_0.below hs
    replace HO25_0 := HO25_0.below hs
    replace hlaM : w.heap.size < W26.heap.size := Nat.lt_of_lt_of_le hlaM hs.size
    replace hlw0 : w5.heap.size < W26.heap.size := Nat.lt_of_lt_of_le hlw0 hs.size
    replace hlx0 : w6.heap.size < W26.heap.size := Nat.lt_of_lt_of_le hlx0 hs.size
    replace hlg0 : w9.heap.size < W26.heap.size := Nat.lt_of_lt_of_le hlg0 hs.size
    replace HB := Aside0.mk (below_on HB.out HB.out.size hs)
    have zs26 := Aside0.mk hs.size
    clear hs
    obtain ⟨kk26, e_26⟩ := E6.out
    replace e_26 := Aside0.mk e_26
    refine (laws_toIntS.calls kk26 _ _ l2 t_aColumns_0 W26 (Kd.C_below HR2.out HB.out) HC2.out e_26.out).mono ?_
    rintro e w26 ⟨v26_0, rfl, h26_0, hb⟩
    clear e_26
    have HO26_0 := OwnR.new (b := w.heap.size) h26_0 HB.out.size
    clear h26_0
    have zc26 := Aside0.mk hb.size
    replace hcaM_0 := pw_cell_below hb hcaM_0
    replace hcw0_0 := pw_cell_below hb hcw0_0
    replace hcx0_0 := pw_cell_below hb hcx0_0
    replace hcg0_0 := pw_cell_below hb hcg0_0
    replace HO2_0 := HO2_0.below hb
    replace HO3_0 := HO3_0.below hb
    replace HO4_0 := HO4_0.below hb
    replace HO5_0 := HO5_0.below hb
    replace HO6_0 := HO6_0.below hb
    replace HO7_0 := HO7_0.below hb
    replace HO8_0 := HO8_0.below hb
    replace HO9_0 := HO9_0.below hb
    replace HO12_0 := HO12_0.below hb
    replace HO14_0 := HO14_0.below hb
    replace HO16_0 := HO16_0.below hb
    replace HO24_0 := HO24_0.below hb
    replace HO25_0 := HO25_0.below hb
    replace hlaM : w.heap.size < w26.heap.size := Nat.lt_of_lt_of_le hlaM hb.size
    replace hlw0 : w5.heap.size < w26.heap.size := Nat.lt_of_lt_of_le hlw0 hb.size
    replace hlx0 : w6.heap.size < w26.heap.size := Nat.lt_of_lt_of_le hlx0 hb.size
    replace hlg0 : w9.heap.size < w26.heap.size := Nat.lt_of_lt_of_le hlg0 hb.size
    replace HB := Aside0.mk (below_on HB.out HB.out.size hb)
    clear hb
    obtain ⟨A26_0, c26_0, rfl⟩ := HO26_0.slice
    go_wp2_with fail
    refine calls_named fun W27 hW => ?_
    have hs : Below w26.heap.size w26 W27 := by rw [hW]; repeat (first | exact Below.refl _ _ | apply below_alloc | apply below_drew1 | apply pw_below_drewN)
    clear hW
    replace hcaM_0 := pw_cell_below hs hcaM_0
    replace hcw0_0 := pw_cell_below hs hcw0_0
    replace hcx0_0 := pw_cell_below hs hcx0_0
    replace hcg0_0 := pw_cell_below hs hcg0_0
    replace HO2_0 := HO2_0.below hs
    replace HO3_0 := HO3_0.below hs
    replace HO4_0 := HO4_0.below hs
    replace HO5_0 := HO5_0.below hs
    replace HO6_0 := HO6_0.below hs
    replace HO7_0 := HO7_0.below hs
    replace HO8_0 := HO8_0.below hs
    replace HO9_0 := HO9_0.below hs
    replace HO12_0 := HO12_0.below hs
    replace HO14_0 := HO14_0.below hs
    replace HO16_0 := HO16_0.below hs
    replace HO24_0 := HO24_0.below hs
    replace HO25_0 := HO25_0.below hs
    replace HO26_0 := HO26_0.below hs
    replace hlaM : w.heap.size < W27.heap.size := Nat.lt_of_lt_of_le hlaM hs.size
    replace hlw0 : w5.heap.size < W27.heap.size := Nat.lt_of_lt_of_le hlw0 hs.size
    replace hlx0 : w6.heap.size < W27.heap.size := Nat.lt_of_lt_of_le hlx0 hs.size
    replace hlg0 : w9.heap.size < W27.heap.size := Nat.lt_of_lt_of_le hlg0 hs.size
    replace HB := Aside0.mk (below_on HB.out HB.out.size hs)
    have zs27 := Aside0.mk hs.size
    clear hs
    obtain ⟨kk27, e_27⟩ := E9.out
    replace e_27 := Aside0.mk e_27
    refine (impl_PartOf.calls kk27 _ _ t_aM_0 _ _ t_aRows_0 _ _ t_aColumns_0 r_0 r_1 W27 HO24_0.C HO24_0.cap HO25_0.C HO25_0.cap HO26_0.C HO26_0.cap e_27.out).mono ?_
    rintro e w27 ⟨v27_0, rfl, h27_0, hb⟩
    clear e_27
    have HO27_0 := OwnS.new (b := w.heap.size) h27_0 HB.out.size
    clear h27_0
    have zc27 := Aside0.mk hb.size
    replace hcaM_0 := pw_cell_below hb hcaM_0
    replace hcw0_0 := pw_cell_below hb hcw0_0
    replace hcx0_0 := pw_cell_below hb hcx0_0
    replace hcg0_0 := pw_cell_below hb hcg0_0
    replace HO2_0 := HO2_0.below hb
    replace HO3_0 := HO3_0.below hb
    replace HO4_0 := HO4_0.below hb
    replace HO5_0 := HO5_0.below hb
    replace HO6_0 := HO6_0.below hb
    replace HO7_0 := HO7_0.below hb
    replace HO8_0 := HO8_0.below hb
    replace HO9_0 := HO9_0.below hb
    replace HO12_0 := HO12_0.below hb
    replace HO14_0 := HO14_0.below hb
    replace HO16_0 := HO16_0.below hb
    replace HO24_0 := HO24_0.below hb
    replace HO25_0 := HO25_0.below hb
    replace HO26_0 := HO26_0.below hb
    replace hlaM : w.heap.size < w27.heap.size := Nat.lt_of_lt_of_le hlaM hb.size
    replace hlw0 : w5.heap.size < w27.heap.size := Nat.lt_of_lt_of_le hlw0 hb.size
    replace hlx0 : w6.heap.size < w27.heap.size := Nat.lt_of_lt_of_le hlx0 hb.size
    replace hlg0 : w9.heap.size < w27.heap.size := Nat.lt_of_lt_of_le hlg0 hb.size
    replace HB := Aside0.mk (below_on HB.out HB.out.size hb)
    clear hb
    obtain ⟨A27_0, c27_0, rfl⟩ := HO27_0.slice
    go_wp2_with fail
    refine calls_named fun W28 hW => ?_
    have hs : Below w27.heap.size w27 W28 := by rw [hW]; repeat (first | exact Below.refl _ _ | apply below_alloc | apply below_drew1 | apply pw_below_drewN)
    have hch0_0 : W28.cell? ⟨w27.heap.size, 0, none⟩ = some (.slice A27_0 r_0.length c27_0) := by rw [hW]; go_simp
    have hlh0 : w27.heap.size < W28.heap.size := by rw [hW]; simp <;> omega
    have zlh0 := Aside0.mk hlh0
    clear hW
    replace hcaM_0 := pw_cell_below hs hcaM_0
    replace hcw0_0 := pw_cell_below hs hcw0_0
    replace hcx0_0 := pw_cell_below hs hcx0_0
    replace hcg0_0 := pw_cell_below hs hcg0_0
    replace HO2_0 := HO2_0.below hs
    replace HO3_0 := HO3_0.below hs
    replace HO4_0 := HO4_0.below hs
    replace HO5_0 := HO5_0.below hs
    replace HO6_0 := HO6_0.below hs
    replace HO7_0 := HO7_0.below hs
    replace HO8_0 := HO8_0.below hs
    replace HO9_0 := HO9_0.below hs
    replace HO12_0 := HO12_0.below hs
    replace HO14_0 := HO14_0.below hs
    replace HO16_0 := HO16_0.below hs
    replace HO24_0 := HO24_0.below hs
    replace HO25_0 := HO25_0.below hs
    replace HO26_0 := HO26_0.below hs
    replace HO27_0 := HO27_0.below hs
    replace hlaM : w.heap.size < W28.heap.size := Nat.lt_of_lt_of_le hlaM hs.size
    replace hlw0 : w5.heap.size < W28.heap.size := Nat.lt_of_lt_of_le hlw0 hs.size
    replace hlx0 : w6.heap.size < W28.heap.size := Nat.lt_of_lt_of_le hlx0 hs.size
    replace hlg0 : w9.heap.size < W28.heap.size := Nat.lt_of_lt_of_le hlg0 hs.size
    replace HB := Aside0.mk (below_on HB.out HB.out.size hs)
    have zs28 := Aside0.mk hs.size
    clear hs
    obtain ⟨kk28, e_28⟩ := E10.out
    replace e_28 := Aside0.mk e_28
    refine (laws_eqMatrix.calls kk28 _ _ r_0 _ _ r_0 true W28 HO27_0.C HO27_0.cap HO5_0.C HO5_0.cap e_28.out).mono ?_
    rintro e w28 ⟨rfl, hb⟩
    clear e_28
    have zc28 := Aside0.mk hb.size
    replace hcaM_0 := pw_cell_below hb hcaM_0
    replace hcw0_0 := pw_cell_below hb hcw0_0
    replace hcx0_0 := pw_cell_below hb hcx0_0
    replace hcg0_0 := pw_cell_below hb hcg0_0
    replace hch0_0 := pw_cell_below hb hch0_0
    replace HO2_0 := HO2_0.below hb
    replace HO3_0 := HO3_0.below hb
    replace HO4_0 := HO4_0.below hb
    replace HO5_0 := HO5_0.below hb
    replace HO6_0 := HO6_0.below hb
    replace HO7_0 := HO7_0.below hb
    replace HO8_0 := HO8_0.below hb
    replace HO9_0 := HO9_0.below hb
    replace HO12_0 := HO12_0.below hb
    replace HO14_0 := HO14_0.below hb
    replace HO16_0 := HO16_0.below hb
    replace HO24_0 := HO24_0.below hb
    replace HO25_0 := HO25_0.below hb
    replace HO26_0 := HO26_0.below hb
    replace HO27_0 := HO27_0.below hb
    replace hlaM : w.heap.size < w28.heap.size := Nat.lt_of_lt_of_le hlaM hb.size
    replace hlw0 : w5.heap.size < w28.heap.size := Nat.lt_of_lt_of_le hlw0 hb.size
    replace hlx0 : w6.heap.size < w28.heap.size := Nat.lt_of_lt_of_le hlx0 hb.size
    replace hlg0 : w9.heap.size < w28.heap.size := Nat.lt_of_lt_of_le hlg0 hb.size
    replace hlh0 : w27.heap.size < w28.heap.size := Nat.lt_of_lt_of_le hlh0 hb.size
    replace HB := Aside0.mk (below_on HB.out HB.out.size hb)
    clear hb
    go_wp2_with fail
    refine calls_named fun W29 hW => ?_
    have hs : Below w28.heap.size w28 W29 := by rw [hW]; repeat (first | exact Below.refl _ _ | apply below_alloc | apply below_drew1 | apply pw_below_drewN)
    clear hW
    replace hcaM_0 := pw_cell_below hs hcaM_0
    replace hcw0_0 := pw_cell_below hs hcw0_0
    replace hcx0_0 := pw_cell_below hs hcx0_0
    replace hcg0_0 := pw_cell_below hs hcg0_0
    replace hch0_0 := pw_cell_below hs hch0_0
    replace HO2_0 := HO2_0.below hs
    replace HO3_0 := HO3_0.below hs
    replace HO4_0 := HO4_0.below hs
    replace HO5_0 := HO5_0.below hs
    replace HO6_0 := HO6_0.below hs
    replace HO7_0 := HO7_0.below hs
    replace HO8_0 := HO8_0.below hs
    replace HO9_0 := HO9_0.below hs
    replace HO12_0 := HO12_0.below hs
    replace HO14_0 := HO14_0.below hs
    replace HO16_0 := HO16_0.below hs
    replace HO24_0 := HO24_0.below hs
    replace HO25_0 := HO25_0.below hs
    replace HO26_0 := HO26_0.below hs
    replace HO27_0 := HO27_0.below hs
    replace hlaM : w.heap.size < W29.heap.size := Nat.lt_of_lt_of_le hlaM hs.size
    replace hlw0 : w5.heap.size < W29.heap.size := Nat.lt_of_lt_of_le hlw0 hs.size
    replace hlx0 : w6.heap.size < W29.heap.size := Nat.lt_of_lt_of_le hlx0 hs.size
    replace hlg0 : w9.heap.size < W29.heap.size := Nat.lt_of_lt_of_le hlg0 hs.size
    replace hlh0 : w27.heap.size < W29.heap.size := Nat.lt_of_lt_of_le hlh0 hs.size
    replace HB := Aside0.mk (below_on HB.out HB.out.size hs)
    have zs29 := Aside0.mk hs.size
    clear hs
    obtain ⟨kk29, e_29⟩ := E14.out
    replace e_29 := Aside0.mk e_29
    refine calls_of_args (args' := #[.agg #[.slice A9_0 (markSS 1 r_0).length c9_0], .int .i64 1]) (by simp [markSS_length, markB_length, markI_length]) ?_
    refine (laws_heldMatrix.calls kk29 _ _ (markSS 1 r_0) 1 (1 + ((totSS r_0 : Nat) : Int)) W29 HO9_0.C HO9_0.cap e_29.out).mono ?_
    rintro e w29 ⟨rfl, hb⟩
    clear e_29
    have zc29 := Aside0.mk hb.size
    replace hcaM_0 := pw_cell_below hb hcaM_0
    replace hcw0_0 := pw_cell_below hb hcw0_0
    replace hcx0_0 := pw_cell_below hb hcx0_0
    replace hcg0_0 := pw_cell_below hb hcg0_0
    replace hch0_0 := pw_cell_below hb hch0_0
    replace HO2_0 := HO2_0.below hb
    replace HO3_0 := HO3_0.below hb
    replace HO4_0 := HO4_0.below hb
    replace HO5_0 := HO5_0.below hb
    replace HO6_0 := HO6_0.below hb
    replace HO7_0 := HO7_0.below hb
    replace HO8_0 := HO8_0.below hb
    replace HO9_0 := HO9_0.below hb
    replace HO12_0 := HO12_0.below hb
    replace HO14_0 := HO14_0.below hb
    replace HO16_0 := HO16_0.below hb
    replace HO24_0 := HO24_0.below hb
    replace HO25_0 := HO25_0.below hb
    replace HO26_0 := HO26_0.below hb
    replace HO27_0 := HO27_0.below hb
    replace hlaM : w.heap.size < w29.heap.size := Nat.lt_of_lt_of_le hlaM hb.size
    replace hlw0 : w5.heap.size < w29.heap.size := Nat.lt_of_lt_of_le hlw0 hb.size
    replace hlx0 : w6.heap.size < w29.heap.size := Nat.lt_of_lt_of_le hlx0 hb.size
    replace hlg0 : w9.heap.size < w29.heap.size := Nat.lt_of_lt_of_le hlg0 hb.size
    replace hlh0 : w27.heap.size < w29.heap.size := Nat.lt_of_lt_of_le hlh0 hb.size
    replace HB := Aside0.mk (below_on HB.out HB.out.size hb)
    clear hb
    go_wp2
    go_ret
    exact ⟨rfl, by repeat (first | exact HB.out | apply below_alloc | apply below_drew1 | apply pw_below_drewN)⟩
end Go.Proofs.Ytggiajjnfldkgaa.PFnExactPartOf
