/- The walk through the law FnExactLocalMatrix, out of the contracts of what it calls. -/
import Derived.Test.YtlmcobjpmonkfaaPFnExactLocalMatrixx
import Derived.Test.YtlmcobjpmonkfaaLawKit
namespace Go.Proofs.Ytlmcobjpmonkfaa.PFnExactLocalMatrix
open Go.RowKit Go.Proofs.YtlmcobjpmonkfaaW.PrintWords Go.Proofs.YtlmcobjpmonkfaaW.PrintLast Go.Proofs.YtlmcobjpmonkfaaW.PrintMore Go.Proofs.Ytlmcobjpmonkfaa.Gf Go.Proofs.Ytlmcobjpmonkfaa.Kit Go.Proofs.Ytlmcobjpmonkfaa.LawKit
set_option linter.unusedVariables false
set_option linter.unusedSimpArgs false
def laws_FnExactLocalMatrix.Facts (a0_0 : Int) (a0_1 : Int) (a0_2 : Int) : Prop := ∃ r_0 : List (List (Int)), ∃ r_1 : Bool, (laws_toLocal.f a0_0 a0_1 a0_2 = some (a0_0, a0_1, a0_2)) ∧ (∃ k, spec_LocalMatrix.f k a0_0 a0_1 a0_2 = some (r_0, r_1)) ∧ (∃ k, impl_LocalMatrix.f k a0_0 a0_1 a0_2 = some (r_0, r_1)) ∧ (∃ k, laws_eqMatrix.f k r_0 r_0 = some true) ∧ (∃ k, laws_heldMatrix.f k (markSS 1 r_0) 1 = some (1 + ((totSS r_0 : Nat) : Int))) ∧ (∀ (l : List Int) (a : Int), 0 ≤ a → a + l.length < 4611686018427387904 → ∃ k, laws_markByteS.f k l a = some (a + ((l.length : Nat) : Int), markB a l.length)) ∧ (totSS r_0 < 1152921504606846976 ∧ r_0.length < 1152921504606846976)
set_option maxHeartbeats 16000000 in
set_option maxRecDepth 100000 in
theorem laws_FnExactLocalMatrix.calls (a0_0 : Int) (a0_1 : Int) (a0_2 : Int) (w : World) (h : laws_FnExactLocalMatrix.Facts a0_0 a0_1 a0_2) :
    Calls Try.prog 4 #[.agg #[.int .i64 a0_0, .int .i64 a0_1, .int .i64 a0_2]] w fun e w' => e = .returned (.bool true) ∧ Below w.heap.size w w' := by
  have HB := Aside0.mk (Below.refl w.heap.size w)
  obtain ⟨r_0, r_1, E1, E3, E4, E5, E6, HMB, HT0⟩ := h
  replace E1 := Aside0.mk E1
  replace E3 := Aside0.mk E3
  replace E4 := Aside0.mk E4
  replace E5 := Aside0.mk E5
  replace E6 := Aside0.mk E6
  replace HMB := Aside0.mk HMB
  replace HT0 := Aside0.mk HT0
  go_enter Try.func4, Try.ntmps4
  go_wp2_with fail
  refine calls_named fun W1 hW => ?_
  have hs : Below w.heap.size w W1 := by rw [hW]; repeat (first | exact Below.refl _ _ | apply below_alloc | apply below_drew1 | apply pw_below_drewN)
  have hcaC_0 : W1.cell? ⟨w.heap.size, 0, none⟩ = some (.int .i64 a0_0) := by rw [hW]; go_simp
  have hcaC_1 : W1.cell? ⟨w.heap.size, 1, none⟩ = some (.int .i64 a0_1) := by rw [hW]; go_simp
  have hcaC_2 : W1.cell? ⟨w.heap.size, 2, none⟩ = some (.int .i64 a0_2) := by rw [hW]; go_simp
  have hlaC : w.heap.size < W1.heap.size := by rw [hW]; simp <;> omega
  have zlaC := Aside0.mk hlaC
  clear hW
  replace HB := Aside0.mk (below_on HB.out HB.out.size hs)
  have zs1 := Aside0.mk hs.size
  clear hs
  refine (laws_toLocal.calls a0_0 a0_1 a0_2 a0_0 a0_1 a0_2 W1  E1.out).mono ?_
  rintro e w1 ⟨rfl, hb⟩
  have zc1 := Aside0.mk hb.size
  replace hcaC_0 := pw_cell_below hb hcaC_0
  replace hcaC_1 := pw_cell_below hb hcaC_1
  replace hcaC_2 := pw_cell_below hb hcaC_2
  replace hlaC : w.heap.size < w1.heap.size := Nat.lt_of_lt_of_le hlaC hb.size
  replace HB := Aside0.mk (below_on HB.out HB.out.size hb)
  clear hb
  go_wp2_with fail
  refine calls_named fun W2 hW => ?_
  have hs : Below w1.heap.size w1 W2 := by rw [hW]; repeat (first | exact Below.refl _ _ | apply below_alloc | apply below_drew1 | apply pw_below_drewN)
  clear hW
  replace hcaC_0 := pw_cell_below hs hcaC_0
  replace hcaC_1 := pw_cell_below hs hcaC_1
  replace hcaC_2 := pw_cell_below hs hcaC_2
  replace hlaC : w.heap.size < W2.heap.size := Nat.lt_of_lt_of_le hlaC hs.size
  replace HB := Aside0.mk (below_on HB.out HB.out.size hs)
  have zs2 := Aside0.mk hs.size
  clear hs
  obtain ⟨kk2, e_2⟩ := E3.out
  replace e_2 := Aside0.mk e_2
  refine (spec_LocalMatrix.calls kk2 a0_0 a0_1 a0_2 r_0 r_1 W2  e_2.out).mono ?_
  rintro e w2 ⟨v2_0, rfl, h2_0, hb⟩
  clear e_2
  have HO2_0 := OwnN.new (b := w.heap.size) h2_0 HB.out.size
  clear h2_0
  have zc2 := Aside0.mk hb.size
  replace hcaC_0 := pw_cell_below hb hcaC_0
  replace hcaC_1 := pw_cell_below hb hcaC_1
  replace hcaC_2 := pw_cell_below hb hcaC_2
  replace hlaC : w.heap.size < w2.heap.size := Nat.lt_of_lt_of_le hlaC hb.size
  replace HB := Aside0.mk (below_on HB.out HB.out.size hb)
  clear hb
  obtain ⟨A2_0, c2_0, rfl⟩ := HO2_0.slice
  go_wp2_with fail
  refine calls_named fun W3 hW => ?_
  have hs : Below w2.heap.size w2 W3 := by rw [hW]; repeat (first | exact Below.refl _ _ | apply below_alloc | apply below_drew1 | apply pw_below_drewN)
  have hcw0_0 : W3.cell? ⟨w2.heap.size, 0, none⟩ = some (.slice A2_0 r_0.length c2_0) := by rw [hW]; go_simp
  have hlw0 : w2.heap.size < W3.heap.size := by rw [hW]; simp <;> omega
  have zlw0 := Aside0.mk hlw0
  clear hW
  replace hcaC_0 := pw_cell_below hs hcaC_0
  replace hcaC_1 := pw_cell_below hs hcaC_1
  replace hcaC_2 := pw_cell_below hs hcaC_2
  replace HO2_0 := HO2_0.below hs
  replace hlaC : w.heap.size < W3.heap.size := Nat.lt_of_lt_of_le hlaC hs.size
  replace HB := Aside0.mk (below_on HB.out HB.out.size hs)
  have zs3 := Aside0.mk hs.size
  clear hs
  refine (laws_toLocal.calls a0_0 a0_1 a0_2 a0_0 a0_1 a0_2 W3  E1.out).mono ?_
  rintro e w3 ⟨rfl, hb⟩
  have zc3 := Aside0.mk hb.size
  replace hcaC_0 := pw_cell_below hb hcaC_0
  replace hcaC_1 := pw_cell_below hb hcaC_1
  replace hcaC_2 := pw_cell_below hb hcaC_2
  replace hcw0_0 := pw_cell_below hb hcw0_0
  replace HO2_0 := HO2_0.below hb
  replace hlaC : w.heap.size < w3.heap.size := Nat.lt_of_lt_of_le hlaC hb.size
  replace hlw0 : w2.heap.size < w3.heap.size := Nat.lt_of_lt_of_le hlw0 hb.size
  replace HB := Aside0.mk (below_on HB.out HB.out.size hb)
  clear hb
  go_wp2_with fail
  refine calls_named fun W4 hW => ?_
  have hs : Below w3.heap.size w3 W4 := by rw [hW]; repeat (first | exact Below.refl _ _ | apply below_alloc | apply below_drew1 | apply pw_below_drewN)
  clear hW
  replace hcaC_0 := pw_cell_below hs hcaC_0
  replace hcaC_1 := pw_cell_below hs hcaC_1
  replace hcaC_2 := pw_cell_below hs hcaC_2
  replace hcw0_0 := pw_cell_below hs hcw0_0
  replace HO2_0 := HO2_0.below hs
  replace hlaC : w.heap.size < W4.heap.size := Nat.lt_of_lt_of_le hlaC hs.size
  replace hlw0 : w2.heap.size < W4.heap.size := Nat.lt_of_lt_of_le hlw0 hs.size
  replace HB := Aside0.mk (below_on HB.out HB.out.size hs)
  have zs4 := Aside0.mk hs.size
  clear hs
  obtain ⟨kk4, e_4⟩ := E4.out
  replace e_4 := Aside0.mk e_4
  refine (impl_LocalMatrix.calls kk4 a0_0 a0_1 a0_2 r_0 r_1 W4  e_4.out).mono ?_
  rintro e w4 ⟨v4_0, rfl, h4_0, hb⟩
  clear e_4
  have HO4_0 := OwnS.new (b := w.heap.size) h4_0 HB.out.size
  clear h4_0
  have zc4 := Aside0.mk hb.size
  replace hcaC_0 := pw_cell_below hb hcaC_0
  replace hcaC_1 := pw_cell_below hb hcaC_1
  replace hcaC_2 := pw_cell_below hb hcaC_2
  replace hcw0_0 := pw_cell_below hb hcw0_0
  replace HO2_0 := HO2_0.below hb
  replace hlaC : w.heap.size < w4.heap.size := Nat.lt_of_lt_of_le hlaC hb.size
  replace hlw0 : w2.heap.size < w4.heap.size := Nat.lt_of_lt_of_le hlw0 hb.size
  replace HB := Aside0.mk (below_on HB.out HB.out.size hb)
  clear hb
  obtain ⟨A4_0, c4_0, rfl⟩ := HO4_0.slice
  go_wp2_with fail
  refine calls_named fun W5 hW => ?_
  have hs : Below w4.heap.size w4 W5 := by rw [hW]; repeat (first | exact Below.refl _ _ | apply below_alloc | apply below_drew1 | apply pw_below_drewN)
  have hcg0_0 : W5.cell? ⟨w4.heap.size, 0, none⟩ = some (.slice A4_0 r_0.length c4_0) := by rw [hW]; go_simp
  have hlg0 : w4.heap.size < W5.heap.size := by rw [hW]; simp <;> omega
  have zlg0 := Aside0.mk hlg0
  clear hW
  replace hcaC_0 := pw_cell_below hs hcaC_0
  replace hcaC_1 := pw_cell_below hs hcaC_1
  replace hcaC_2 := pw_cell_below hs hcaC_2
  replace hcw0_0 := pw_cell_below hs hcw0_0
  replace HO2_0 := HO2_0.below hs
  replace HO4_0 := HO4_0.below hs
  replace hlaC : w.heap.size < W5.heap.size := Nat.lt_of_lt_of_le hlaC hs.size
  replace hlw0 : w2.heap.size < W5.heap.size := Nat.lt_of_lt_of_le hlw0 hs.size
  replace HB := Aside0.mk (below_on HB.out HB.out.size hs)
  have zs5 := Aside0.mk hs.size
  clear hs
  obtain ⟨kk5, e_5⟩ := E5.out
  replace e_5 := Aside0.mk e_5
  refine (laws_eqMatrix.calls kk5 _ _ r_0 _ _ r_0 true W5 HO4_0.C HO4_0.cap HO2_0.C HO2_0.cap e_5.out).mono ?_
  rintro e w5 ⟨rfl, hb⟩
  clear e_5
  have zc5 := Aside0.mk hb.size
  replace hcaC_0 := pw_cell_below hb hcaC_0
  replace hcaC_1 := pw_cell_below hb hcaC_1
  replace hcaC_2 := pw_cell_below hb hcaC_2
  replace hcw0_0 := pw_cell_below hb hcw0_0
  replace hcg0_0 := pw_cell_below hb hcg0_0
  replace HO2_0 := HO2_0.below hb
  replace HO4_0 := HO4_0.below hb
  replace hlaC : w.heap.size < w5.heap.size := Nat.lt_of_lt_of_le hlaC hb.size
  replace hlw0 : w2.heap.size < w5.heap.size := Nat.lt_of_lt_of_le hlw0 hb.size
  replace hlg0 : w4.heap.size < w5.heap.size := Nat.lt_of_lt_of_le hlg0 hb.size
  replace HB := Aside0.mk (below_on HB.out HB.out.size hb)
  clear hb
  go_wp2_with fail
  refine calls_named fun W6 hW => ?_
  have hs : Below w5.heap.size w5 W6 := by rw [hW]; repeat (first | exact Below.refl _ _ | apply below_alloc | apply below_drew1 | apply pw_below_drewN)
  clear hW
  replace hcaC_0 := pw_cell_below hs hcaC_0
  replace hcaC_1 := pw_cell_below hs hcaC_1
  replace hcaC_2 := pw_cell_below hs hcaC_2
  replace hcw0_0 := pw_cell_below hs hcw0_0
  replace hcg0_0 := pw_cell_below hs hcg0_0
  replace HO2_0 := HO2_0.below hs
  replace HO4_0 := HO4_0.below hs
  replace hlaC : w.heap.size < W6.heap.size := Nat.lt_of_lt_of_le hlaC hs.size
  replace hlw0 : w2.heap.size < W6.heap.size := Nat.lt_of_lt_of_le hlw0 hs.size
  replace hlg0 : w4.heap.size < W6.heap.size := Nat.lt_of_lt_of_le hlg0 hs.size
  replace HB := Aside0.mk (below_on HB.out HB.out.size hs)
  have zs6 := Aside0.mk hs.size
  clear hs
  refine (laws_markMatrix.calls (fun k => W4.heap.size ≤ k ∧ k < w4.heap.size) _ r_0 1 w W6 HB.out HO4_0.out HMB.out (by have := HT0.out; omega) (by have := HT0.out; omega) (by have := HT0.out; omega)).mono ?_
  rintro e w6 ⟨rfl, hS, hB, hk⟩
  replace HO4_0 := OwnS.mk hS
  clear hS
  have zc6 := Aside0.mk hk.1
  replace hcaC_0 := cell_kept hcaC_0 hk (fun h3_ => by have h4_ : W4.heap.size ≤ w.heap.size ∧ w.heap.size < w4.heap.size := h3_; clear h3_; have := zlaC.out; have := zs1.out; have := zc1.out; have := zs2.out; have := zc2.out; have := zlw0.out; have := zs3.out; have := zc3.out; have := zs4.out; have := zc4.out; have := zlg0.out; have := zs5.out; have := zc5.out; have := zs6.out; have := zc6.out; omega)
  replace hcaC_1 := cell_kept hcaC_1 hk (fun h3_ => by have h4_ : W4.heap.size ≤ w.heap.size ∧ w.heap.size < w4.heap.size := h3_; clear h3_; have := zlaC.out; have := zs1.out; have := zc1.out; have := zs2.out; have := zc2.out; have := zlw0.out; have := zs3.out; have := zc3.out; have := zs4.out; have := zc4.out; have := zlg0.out; have := zs5.out; have := zc5.out; have := zs6.out; have := zc6.out; omega)
  replace hcaC_2 := cell_kept hcaC_2 hk (fun h3_ => by have h4_ : W4.heap.size ≤ w.heap.size ∧ w.heap.size < w4.heap.size := h3_; clear h3_; have := zlaC.out; have := zs1.out; have := zc1.out; have := zs2.out; have := zc2.out; have := zlw0.out; have := zs3.out; have := zc3.out; have := zs4.out; have := zc4.out; have := zlg0.out; have := zs5.out; have := zc5.out; have := zs6.out; have := zc6.out; omega)
  replace hcw0_0 := cell_kept hcw0_0 hk (fun h3_ => by have h4_ : W4.heap.size ≤ w2.heap.size ∧ w2.heap.size < w4.heap.size := h3_; clear h3_; have := zlaC.out; have := zs1.out; have := zc1.out; have := zs2.out; have := zc2.out; have := zlw0.out; have := zs3.out; have := zc3.out; have := zs4.out; have := zc4.out; have := zlg0.out; have := zs5.out; have := zc5.out; have := zs6.out; have := zc6.out; omega)
  replace hcg0_0 := cell_kept hcg0_0 hk (fun h3_ => by have h4_ : W4.heap.size ≤ w4.heap.size ∧ w4.heap.size < w4.heap.size := h3_; clear h3_; have := zlaC.out; have := zs1.out; have := zc1.out; have := zs2.out; have := zc2.out; have := zlw0.out; have := zs3.out; have := zc3.out; have := zs4.out; have := zc4.out; have := zlg0.out; have := zs5.out; have := zc5.out; have := zs6.out; have := zc6.out; omega)
  replace HO2_0 := HO2_0.kept hk (fun k_ h1_ h2_ h3_ => by have := zlaC.out; have := zs1.out; have := zc1.out; have := zs2.out; have := zc2.out; have := zlw0.out; have := zs3.out; have := zc3.out; have := zs4.out; have := zc4.out; have := zlg0.out; have := zs5.out; have := zc5.out; have := zs6.out; have := zc6.out; obtain ⟨h4_, h5_⟩ := h3_; omega)
  replace hlaC : w.heap.size < w6.heap.size := Nat.lt_of_lt_of_le hlaC hk.1
  replace hlw0 : w2.heap.size < w6.heap.size := Nat.lt_of_lt_of_le hlw0 hk.1
  replace hlg0 : w4.heap.size < w6.heap.size := Nat.lt_of_lt_of_le hlg0 hk.1
  replace HB := Aside0.mk hB
  clear hB hk
  go_wp2_with fail
  refine calls_named fun W7 hW => ?_
  have hs : Below w6.heap.size w6 W7 := by rw [hW]; repeat (first | exact Below.refl _ _ | apply below_alloc | apply below_drew1 | apply pw_below_drewN)
  clear hW
  replace hcaC_0 := pw_cell_below hs hcaC_0
  replace hcaC_1 := pw_cell_below hs hcaC_1
  replace hcaC_2 := pw_cell_below hs hcaC_2
  replace hcw0_0 := pw_cell_below hs hcw0_0
  replace hcg0_0 := pw_cell_below hs hcg0_0
  replace HO2_0 := HO2_0.below hs
  replace HO4_0 := HO4_0.below hs
  replace hlaC : w.heap.size < W7.heap.size := Nat.lt_of_lt_of_le hlaC hs.size
  replace hlw0 : w2.heap.size < W7.heap.size := Nat.lt_of_lt_of_le hlw0 hs.size
  replace hlg0 : w4.heap.size < W7.heap.size := Nat.lt_of_lt_of_le hlg0 hs.size
  replace HB := Aside0.mk (below_on HB.out HB.out.size hs)
  have zs7 := Aside0.mk hs.size
  clear hs
  obtain ⟨kk7, e_7⟩ := E6.out
  replace e_7 := Aside0.mk e_7
  refine calls_of_args (args' := #[.agg #[.slice A4_0 (markSS 1 r_0).length c4_0], .int .i64 1]) (by simp [markSS_length, markB_length, markI_length]) ?_
  refine (laws_heldMatrix.calls kk7 _ _ (markSS 1 r_0) 1 (1 + ((totSS r_0 : Nat) : Int)) W7 HO4_0.C HO4_0.cap e_7.out).mono ?_
  rintro e w7 ⟨rfl, hb⟩
  clear e_7
  have zc7 := Aside0.mk hb.size
  replace hcaC_0 := pw_cell_below hb hcaC_0
  replace hcaC_1 := pw_cell_below hb hcaC_1
  replace hcaC_2 := pw_cell_below hb hcaC_2
  replace hcw0_0 := pw_cell_below hb hcw0_0
  replace hcg0_0 := pw_cell_below hb hcg0_0
  replace HO2_0 := HO2_0.below hb
  replace HO4_0 := HO4_0.below hb
  replace hlaC : w.heap.size < w7.heap.size := Nat.lt_of_lt_of_le hlaC hb.size
  replace hlw0 : w2.heap.size < w7.heap.size := Nat.lt_of_lt_of_le hlw0 hb.size
  replace hlg0 : w4.heap.size < w7.heap.size := Nat.lt_of_lt_of_le hlg0 hb.size
  replace HB := Aside0.mk (below_on HB.out HB.out.size hb)
  clear hb
  go_wp2_with fail
  refine calls_named fun W8 hW => ?_
  have hs : Below w7.heap.size w7 W8 := by rw [hW]; repeat (first | exact Below.refl _ _ | apply below_alloc | apply below_drew1 | apply pw_below_drewN)
  clear hW
  replace hcaC_0 := pw_cell_below hs hcaC_0
  replace hcaC_1 := pw_cell_below hs hcaC_1
  replace hcaC_2 := pw_cell_below hs hcaC_2
  replace hcw0_0 := pw_cell_below hs hcw0_0
  replace hcg0_0 := pw_cell_below hs hcg0_0
  replace HO2_0 := HO2_0.below hs
  replace HO4_0 := HO4_0.below hs
  replace hlaC : w.heap.size < W8.heap.size := Nat.lt_of_lt_of_le hlaC hs.size
  replace hlw0 : w2.heap.size < W8.heap.size := Nat.lt_of_lt_of_le hlw0 hs.size
  replace hlg0 : w4.heap.size < W8.heap.size := Nat.lt_of_lt_of_le hlg0 hs.size
  replace HB := Aside0.mk (below_on HB.out HB.out.size hs)
  have zs8 := Aside0.mk hs.size
  clear hs
  refine (laws_toLocal.calls a0_0 a0_1 a0_2 a0_0 a0_1 a0_2 W8  E1.out).mono ?_
  rintro e w8 ⟨rfl, hb⟩
  have zc8 := Aside0.mk hb.size
  replace hcaC_0 := pw_cell_below hb hcaC_0
  replace hcaC_1 := pw_cell_below hb hcaC_1
  replace hcaC_2 := pw_cell_below hb hcaC_2
  replace hcw0_0 := pw_cell_below hb hcw0_0
  replace hcg0_0 := pw_cell_below hb hcg0_0
  replace HO2_0 := HO2_0.below hb
  replace HO4_0 := HO4_0.below hb
  replace hlaC : w.heap.size < w8.heap.size := Nat.lt_of_lt_of_le hlaC hb.size
  replace hlw0 : w2.heap.size < w8.heap.size := Nat.lt_of_lt_of_le hlw0 hb.size
  replace hlg0 : w4.heap.size < w8.heap.size := Nat.lt_of_lt_of_le hlg0 hb.size
  replace HB := Aside0.mk (below_on HB.out HB.out.size hb)
  clear hb
  go_wp2_with fail
  refine calls_named fun W9 hW => ?_
  have hs : Below w8.heap.size w8 W9 := by rw [hW]; repeat (first | exact Below.refl _ _ | apply below_alloc | apply below_drew1 | apply pw_below_drewN)
  clear hW
  replace hcaC_0 := pw_cell_below hs hcaC_0
  replace hcaC_1 := pw_cell_below hs hcaC_1
  replace hcaC_2 := pw_cell_below hs hcaC_2
  replace hcw0_0 := pw_cell_below hs hcw0_0
  replace hcg0_0 := pw_cell_below hs hcg0_0
  replace HO2_0 := HO2_0.below hs
  replace HO4_0 := HO4_0.below hs
  replace hlaC : w.heap.size < W9.heap.size := Nat.lt_of_lt_of_le hlaC hs.size
  replace hlw0 : w2.heap.size < W9.heap.size := Nat.lt_of_lt_of_le hlw0 hs.size
  replace hlg0 : w4.heap.size < W9.heap.size := Nat.lt_of_lt_of_le hlg0 hs.size
  replace HB := Aside0.mk (below_on HB.out HB.out.size hs)
  have zs9 := Aside0.mk hs.size
  clear hs
  obtain ⟨kk9, e_9⟩ := E4.out
  replace e_9 := Aside0.mk e_9
  refine (impl_LocalMatrix.calls kk9 a0_0 a0_1 a0_2 r_0 r_1 W9  e_9.out).mono ?_
  rintro e w9 ⟨v9_0, rfl, h9_0, hb⟩
  clear e_9
  have HO9_0 := OwnS.new (b := w.heap.size) h9_0 HB.out.size
  clear h9_0
  have zc9 := Aside0.mk hb.size
  replace hcaC_0 := pw_cell_below hb hcaC_0
  replace hcaC_1 := pw_cell_below hb hcaC_1
  replace hcaC_2 := pw_cell_below hb hcaC_2
  replace hcw0_0 := pw_cell_below hb hcw0_0
  replace hcg0_0 := pw_cell_below hb hcg0_0
  replace HO2_0 := HO2_0.below hb
  replace HO4_0 := HO4_0.below hb
  replace hlaC : w.heap.size < w9.heap.size := Nat.lt_of_lt_of_le hlaC hb.size
  replace hlw0 : w2.heap.size < w9.heap.size := Nat.lt_of_lt_of_le hlw0 hb.size
  replace hlg0 : w4.heap.size < w9.heap.size := Nat.lt_of_lt_of_le hlg0 hb.size
  replace HB := Aside0.mk (below_on HB.out HB.out.size hb)
  clear hb
  obtain ⟨A9_0, c9_0, rfl⟩ := HO9_0.slice
  go_wp2_with fail
  refine calls_named fun W10 hW => ?_
  have hs : Below w9.heap.size w9 W10 := by rw [hW]; repeat (first | exact Below.refl _ _ | apply below_alloc | apply below_drew1 | apply pw_below_drewN)
  have hch0_0 : W10.cell? ⟨w9.heap.size, 0, none⟩ = some (.slice A9_0 r_0.length c9_0) := by rw [hW]; go_simp
  have hlh0 : w9.heap.size < W10.heap.size := by rw [hW]; simp <;> omega
  have zlh0 := Aside0.mk hlh0
  clear hW
  replace hcaC_0 := pw_cell_below hs hcaC_0
  replace hcaC_1 := pw_cell_below hs hcaC_1
  replace hcaC_2 := pw_cell_below hs hcaC_2
  replace hcw0_0 := pw_cell_below hs hcw0_0
  replace hcg0_0 := pw_cell_below hs hcg0_0
  replace HO2_0 := HO2_0.below hs
  replace HO4_0 := HO4_0.below hs
  replace HO9_0 := HO9_0.below hs
  replace hlaC : w.heap.size < W10.heap.size := Nat.lt_of_lt_of_le hlaC hs.size
  replace hlw0 : w2.heap.size < W10.heap.size := Nat.lt_of_lt_of_le hlw0 hs.size
  replace hlg0 : w4.heap.size < W10.heap.size := Nat.lt_of_lt_of_le hlg0 hs.size
  replace HB := Aside0.mk (below_on HB.out HB.out.size hs)
  have zs10 := Aside0.mk hs.size
  clear hs
  obtain ⟨kk10, e_10⟩ := E5.out
  replace e_10 := Aside0.mk e_10
  refine (laws_eqMatrix.calls kk10 _ _ r_0 _ _ r_0 true W10 HO9_0.C HO9_0.cap HO2_0.C HO2_0.cap e_10.out).mono ?_
  rintro e w10 ⟨rfl, hb⟩
  clear e_10
  have zc10 := Aside0.mk hb.size
  replace hcaC_0 := pw_cell_below hb hcaC_0
  replace hcaC_1 := pw_cell_below hb hcaC_1
  replace hcaC_2 := pw_cell_below hb hcaC_2
  replace hcw0_0 := pw_cell_below hb hcw0_0
  replace hcg0_0 := pw_cell_below hb hcg0_0
  replace hch0_0 := pw_cell_below hb hch0_0
  replace HO2_0 := HO2_0.below hb
  replace HO4_0 := HO4_0.below hb
  replace HO9_0 := HO9_0.below hb
  replace hlaC : w.heap.size < w10.heap.size := Nat.lt_of_lt_of_le hlaC hb.size
  replace hlw0 : w2.heap.size < w10.heap.size := Nat.lt_of_lt_of_le hlw0 hb.size
  replace hlg0 : w4.heap.size < w10.heap.size := Nat.lt_of_lt_of_le hlg0 hb.size
  replace hlh0 : w9.heap.size < w10.heap.size := Nat.lt_of_lt_of_le hlh0 hb.size
  replace HB := Aside0.mk (below_on HB.out HB.out.size hb)
  clear hb
  go_wp2_with fail
  refine calls_named fun W11 hW => ?_
  have hs : Below w10.heap.size w10 W11 := by rw [hW]; repeat (first | exact Below.refl _ _ | apply below_alloc | apply below_drew1 | apply pw_below_drewN)
  clear hW
  replace hcaC_0 := pw_cell_below hs hcaC_0
  replace hcaC_1 := pw_cell_below hs hcaC_1
  replace hcaC_2 := pw_cell_below hs hcaC_2
  replace hcw0_0 := pw_cell_below hs hcw0_0
  replace hcg0_0 := pw_cell_below hs hcg0_0
  replace hch0_0 := pw_cell_below hs hch0_0
  replace HO2_0 := HO2_0.below hs
  replace HO4_0 := HO4_0.below hs
  replace HO9_0 := HO9_0.below hs
  replace hlaC : w.heap.size < W11.heap.size := Nat.lt_of_lt_of_le hlaC hs.size
  replace hlw0 : w2.heap.size < W11.heap.size := Nat.lt_of_lt_of_le hlw0 hs.size
  replace hlg0 : w4.heap.size < W11.heap.size := Nat.lt_of_lt_of_le hlg0 hs.size
  replace hlh0 : w9.heap.size < W11.heap.size := Nat.lt_of_lt_of_le hlh0 hs.size
  replace HB := Aside0.mk (below_on HB.out HB.out.size hs)
  have zs11 := Aside0.mk hs.size
  clear hs
  obtain ⟨kk11, e_11⟩ := E6.out
  replace e_11 := Aside0.mk e_11
  refine calls_of_args (args' := #[.agg #[.slice A4_0 (markSS 1 r_0).length c4_0], .int .i64 1]) (by simp [markSS_length, markB_length, markI_length]) ?_
  refine (laws_heldMatrix.calls kk11 _ _ (markSS 1 r_0) 1 (1 + ((totSS r_0 : Nat) : Int)) W11 HO4_0.C HO4_0.cap e_11.out).mono ?_
  rintro e w11 ⟨rfl, hb⟩
  clear e_11
  have zc11 := Aside0.mk hb.size
  replace hcaC_0 := pw_cell_below hb hcaC_0
  replace hcaC_1 := pw_cell_below hb hcaC_1
  replace hcaC_2 := pw_cell_below hb hcaC_2
  replace hcw0_0 := pw_cell_below hb hcw0_0
  replace hcg0_0 := pw_cell_below hb hcg0_0
  replace hch0_0 := pw_cell_below hb hch0_0
  replace HO2_0 := HO2_0.below hb
  replace HO4_0 := HO4_0.below hb
  replace HO9_0 := HO9_0.below hb
  replace hlaC : w.heap.size < w11.heap.size := Nat.lt_of_lt_of_le hlaC hb.size
  replace hlw0 : w2.heap.size < w11.heap.size := Nat.lt_of_lt_of_le hlw0 hb.size
  replace hlg0 : w4.heap.size < w11.heap.size := Nat.lt_of_lt_of_le hlg0 hb.size
  replace hlh0 : w9.heap.size < w11.heap.size := Nat.lt_of_lt_of_le hlh0 hb.size
  replace HB := Aside0.mk (below_on HB.out HB.out.size hb)
  clear hb
  go_wp2
  go_ret
  exact ⟨rfl, by repeat (first | exact HB.out | apply below_alloc | apply below_drew1 | apply pw_below_drewN)⟩
end Go.Proofs.Ytlmcobjpmonkfaa.PFnExactLocalMatrix
