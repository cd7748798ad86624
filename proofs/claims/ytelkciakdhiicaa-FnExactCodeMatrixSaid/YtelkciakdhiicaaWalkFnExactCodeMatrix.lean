/- The walk through the law FnExactCodeMatrix, out of the contracts of what it calls. -/
import Derived.Test.YtelkciakdhiicaaPFnExactCodeMatrixx
import Derived.Test.YtelkciakdhiicaaLawKit
namespace Go.Proofs.Ytelkciakdhiicaa.PFnExactCodeMatrix
open Go.RowKit Go.Proofs.YtelkciakdhiicaaW.PrintWords Go.Proofs.YtelkciakdhiicaaW.PrintLast Go.Proofs.YtelkciakdhiicaaW.PrintMore Go.Proofs.Ytelkciakdhiicaa.Gf Go.Proofs.Ytelkciakdhiicaa.Kit Go.Proofs.Ytelkciakdhiicaa.LawKit
set_option linter.unusedVariables false
set_option linter.unusedSimpArgs false
def laws_FnExactCodeMatrix.Facts (a0 : Int) (a1 : Int) : Prop := ∃ r_0 : List (List (Int)), ∃ r_1 : Bool, (∃ k, spec_CodeMatrix.f k a0 a1 = some (r_0, r_1)) ∧ (∃ k, impl_CodeMatrix.f k a0 a1 = some (r_0, r_1)) ∧ (∃ k, laws_eqMatrix.f k r_0 r_0 = some true) ∧ (∃ k, laws_heldMatrix.f k (markSS 1 r_0) 1 = some (1 + ((totSS r_0 : Nat) : Int))) ∧ (∀ (l : List Int) (a : Int), 0 ≤ a → a + l.length < 4611686018427387904 → ∃ k, laws_markByteS.f k l a = some (a + ((l.length : Nat) : Int), markB a l.length)) ∧ (totSS r_0 < 1152921504606846976 ∧ r_0.length < 1152921504606846976)
set_option maxHeartbeats 16000000 in
set_option maxRecDepth 100000 in
theorem laws_FnExactCodeMatrix.calls (a0 : Int) (a1 : Int) (w : World) (h : laws_FnExactCodeMatrix.Facts a0 a1) :
    Calls Try.prog 9 #[.int .i64 a0, .int .i64 a1] w fun e w' => e = .returned (.bool true) ∧ Below w.heap.size w w' := by
  have HB := Aside0.mk (Below.refl w.heap.size w)
  obtain ⟨r_0, r_1, E1, E2, E3, E4, HMB, HT0⟩ := h
  replace E1 := Aside0.mk E1
  replace E2 := Aside0.mk E2
  replace E3 := Aside0.mk E3
  replace E4 := Aside0.mk E4
  replace HMB := Aside0.mk HMB
  replace HT0 := Aside0.mk HT0
  go_enter Try.func9, Try.ntmps9
  go_wp2_with fail
  refine calls_named fun W1 hW => ?_
  have hs : Below w.heap.size w W1 := by rw [hW]; repeat (first | exact Below.refl _ _ | apply below_alloc | apply below_drew1 | apply pw_below_drewN)
  clear hW
  replace HB := Aside0.mk (below_on HB.out HB.out.size hs)
  have zs1 := Aside0.mk hs.size
  clear hs
  obtain ⟨kk1, e_1⟩ := E1.out
  replace e_1 := Aside0.mk e_1
  refine (spec_CodeMatrix.calls kk1 a0 a1 r_0 r_1 W1  e_1.out).mono ?_
  rintro e w1 ⟨v1_0, rfl, h1_0, hb⟩
  clear e_1
  have HO1_0 := OwnN.new (b := w.heap.size) h1_0 HB.out.size
  clear h1_0
  have zc1 := Aside0.mk hb.size
  replace HB := Aside0.mk (below_on HB.out HB.out.size hb)
  clear hb
  obtain ⟨A1_0, c1_0, rfl⟩ := HO1_0.slice
  go_wp2_with fail
  refine calls_named fun W2 hW => ?_
  have hs : Below w1.heap.size w1 W2 := by rw [hW]; repeat (first | exact Below.refl _ _ | apply below_alloc | apply below_drew1 | apply pw_below_drewN)
  have hcw0_0 : W2.cell? ⟨w1.heap.size, 0, none⟩ = some (.slice A1_0 r_0.length c1_0) := by rw [hW]; go_simp
  have hlw0 : w1.heap.size < W2.heap.size := by rw [hW]; simp <;> omega
  have zlw0 := Aside0.mk hlw0
  clear hW
  replace HO1_0 := HO1_0.below hs
  replace HB := Aside0.mk (below_on HB.out HB.out.size hs)
  have zs2 := Aside0.mk hs.size
  clear hs
  obtain ⟨kk2, e_2⟩ := E2.out
  replace e_2 := Aside0.mk e_2
  refine (impl_CodeMatrix.calls kk2 a0 a1 r_0 r_1 W2  e_2.out).mono ?_
  rintro e w2 ⟨v2_0, rfl, h2_0, hb⟩
  clear e_2
  have HO2_0 := OwnS.new (b := w.heap.size) h2_0 HB.out.size
  clear h2_0
  have zc2 := Aside0.mk hb.size
  replace hcw0_0 := pw_cell_below hb hcw0_0
  replace HO1_0 := HO1_0.below hb
  replace hlw0 : w1.heap.size < w2.heap.size := Nat.lt_of_lt_of_le hlw0 hb.size
  replace HB := Aside0.mk (below_on HB.out HB.out.size hb)
  clear hb
  obtain ⟨A2_0, c2_0, rfl⟩ := HO2_0.slice
  go_wp2_with fail
  refine calls_named fun W3 hW => ?_
  have hs : Below w2.heap.size w2 W3 := by rw [hW]; repeat (first | exact Below.refl _ _ | apply below_alloc | apply below_drew1 | apply pw_below_drewN)
  have hcg0_0 : W3.cell? ⟨w2.heap.size, 0, none⟩ = some (.slice A2_0 r_0.length c2_0) := by rw [hW]; go_simp
  have hlg0 : w2.heap.size < W3.heap.size := by rw [hW]; simp <;> omega
  have zlg0 := Aside0.mk hlg0
  clear hW
  replace hcw0_0 := pw_cell_below hs hcw0_0
  replace HO1_0 := HO1_0.below hs
  replace HO2_0 := HO2_0.below hs
  replace hlw0 : w1.heap.size < W3.heap.size := Nat.lt_of_lt_of_le hlw0 hs.size
  replace HB := Aside0.mk (below_on HB.out HB.out.size hs)
  have zs3 := Aside0.mk hs.size
  clear hs
  obtain ⟨kk3, e_3⟩ := E3.out
  replace e_3 := Aside0.mk e_3
  refine (laws_eqMatrix.calls kk3 _ _ r_0 _ _ r_0 true W3 HO2_0.C HO2_0.cap HO1_0.C HO1_0.cap e_3.out).mono ?_
  rintro e w3 ⟨rfl, hb⟩
  clear e_3
  have zc3 := Aside0.mk hb.size
  replace hcw0_0 := pw_cell_below hb hcw0_0
  replace hcg0_0 := pw_cell_below hb hcg0_0
  replace HO1_0 := HO1_0.below hb
  replace HO2_0 := HO2_0.below hb
  replace hlw0 : w1.heap.size < w3.heap.size := Nat.lt_of_lt_of_le hlw0 hb.size
  replace hlg0 : w2.heap.size < w3.heap.size := Nat.lt_of_lt_of_le hlg0 hb.size
  replace HB := Aside0.mk (below_on HB.out HB.out.size hb)
  clear hb
  go_wp2_with fail
  refine calls_named fun W4 hW => ?_
  have hs : Below w3.heap.size w3 W4 := by rw [hW]; repeat (first | exact Below.refl _ _ | apply below_alloc | apply below_drew1 | apply pw_below_drewN)
  clear hW
  replace hcw0_0 := pw_cell_below hs hcw0_0
  replace hcg0_0 := pw_cell_below hs hcg0_0
  replace HO1_0 := HO1_0.below hs
  replace HO2_0 := HO2_0.below hs
  replace hlw0 : w1.heap.size < W4.heap.size := Nat.lt_of_lt_of_le hlw0 hs.size
  replace hlg0 : w2.heap.size < W4.heap.size := Nat.lt_of_lt_of_le hlg0 hs.size
  replace HB := Aside0.mk (below_on HB.out HB.out.size hs)
  have zs4 := Aside0.mk hs.size
  clear hs
  refine (laws_markMatrix.calls (fun k => W2.heap.size ≤ k ∧ k < w2.heap.size) _ r_0 1 w W4 HB.out HO2_0.out HMB.out (by have := HT0.out; omega) (by have := HT0.out; omega) (by have := HT0.out; omega)).mono ?_
  rintro e w4 ⟨rfl, hS, hB, hk⟩
  replace HO2_0 := OwnS.mk hS
  clear hS
  have zc4 := Aside0.mk hk.1
  replace hcw0_0 := cell_kept hcw0_0 hk (fun h3_ => by have h4_ : W2.heap.size ≤ w1.heap.size ∧ w1.heap.size < w2.heap.size := h3_; clear h3_; have := zs1.out; have := zc1.out; have := zlw0.out; have := zs2.out; have := zc2.out; have := zlg0.out; have := zs3.out; have := zc3.out; have := zs4.out; have := zc4.out; omega)
  replace hcg0_0 := cell_kept hcg0_0 hk (fun h3_ => by have h4_ : W2.heap.size ≤ w2.heap.size ∧ w2.heap.size < w2.heap.size := h3_; clear h3_; have := zs1.out; have := zc1.out; have := zlw0.out; have := zs2.out; have := zc2.out; have := zlg0.out; have := zs3.out; have := zc3.out; have := zs4.out; have := zc4.out; omega)
  replace HO1_0 := HO1_0.kept hk (fun k_ h1_ h2_ h3_ => by have := zs1.out; have := zc1.out; have := zlw0.out; have := zs2.out; have := zc2.out; have := zlg0.out; have := zs3.out; have := zc3.out; have := zs4.out; have := zc4.out; obtain ⟨h4_, h5_⟩ := h3_; omega)
  replace hlw0 : w1.heap.size < w4.heap.size := Nat.lt_of_lt_of_le hlw0 hk.1
  replace hlg0 : w2.heap.size < w4.heap.size := Nat.lt_of_lt_of_le hlg0 hk.1
  replace HB := Aside0.mk hB
  clear hB hk
  go_wp2_with fail
  refine calls_named fun W5 hW => ?_
  have hs : Below w4.heap.size w4 W5 := by rw [hW]; repeat (first | exact Below.refl _ _ | apply below_alloc | apply below_drew1 | apply pw_below_drewN)
  clear hW
  replace hcw0_0 := pw_cell_below hs hcw0_0
  replace hcg0_0 := pw_cell_below hs hcg0_0
  replace HO1_0 := HO1_0.below hs
  replace HO2_0 := HO2_0.below hs
  replace hlw0 : w1.heap.size < W5.heap.size := Nat.lt_of_lt_of_le hlw0 hs.size
  replace hlg0 : w2.heap.size < W5.heap.size := Nat.lt_of_lt_of_le hlg0 hs.size
  replace HB := Aside0.mk (below_on HB.out HB.out.size hs)
  have zs5 := Aside0.mk hs.size
  clear hs
  obtain ⟨kk5, e_5⟩ := E4.out
  replace e_5 := Aside0.mk e_5
  refine calls_of_args (args' := #[.agg #[.slice A2_0 (markSS 1 r_0).length c2_0], .int .i64 1]) (by simp [markSS_length, markB_length, markI_length]) ?_
  refine (laws_heldMatrix.calls kk5 _ _ (markSS 1 r_0) 1 (1 + ((totSS r_0 : Nat) : Int)) W5 HO2_0.C HO2_0.cap e_5.out).mono ?_
  rintro e w5 ⟨rfl, hb⟩
  clear e_5
  have zc5 := Aside0.mk hb.size
  replace hcw0_0 := pw_cell_below hb hcw0_0
  replace hcg0_0 := pw_cell_below hb hcg0_0
  replace HO1_0 := HO1_0.below hb
  replace HO2_0 := HO2_0.below hb
  replace hlw0 : w1.heap.size < w5.heap.size := Nat.lt_of_lt_of_le hlw0 hb.size
  replace hlg0 : w2.heap.size < w5.heap.size := Nat.lt_of_lt_of_le hlg0 hb.size
  replace HB := Aside0.mk (below_on HB.out HB.out.size hb)
  clear hb
  go_wp2_with fail
  refine calls_named fun W6 hW => ?_
  have hs : Below w5.heap.size w5 W6 := by rw [hW]; repeat (first | exact Below.refl _ _ | apply below_alloc | apply below_drew1 | apply pw_below_drewN)
  clear hW
  replace hcw0_0 := pw_cell_below hs hcw0_0
  replace hcg0_0 := pw_cell_below hs hcg0_0
  replace HO1_0 := HO1_0.below hs
  replace HO2_0 := HO2_0.below hs
  replace hlw0 : w1.heap.size < W6.heap.size := Nat.lt_of_lt_of_le hlw0 hs.size
  replace hlg0 : w2.heap.size < W6.heap.size := Nat.lt_of_lt_of_le hlg0 hs.size
  replace HB := Aside0.mk (below_on HB.out HB.out.size hs)
  have zs6 := Aside0.mk hs.size
  clear hs
  obtain ⟨kk6, e_6⟩ := E2.out
  replace e_6 := Aside0.mk e_6
  refine (impl_CodeMatrix.calls kk6 a0 a1 r_0 r_1 W6  e_6.out).mono ?_
  rintro e w6 ⟨v6_0, rfl, h6_0, hb⟩
  clear e_6
  have HO6_0 := OwnS.new (b := w.heap.size) h6_0 HB.out.size
  clear h6_0
  have zc6 := Aside0.mk hb.size
  replace hcw0_0 := pw_cell_below hb hcw0_0
  replace hcg0_0 := pw_cell_below hb hcg0_0
  replace HO1_0 := HO1_0.below hb
  replace HO2_0 := HO2_0.below hb
  replace hlw0 : w1.heap.size < w6.heap.size := Nat.lt_of_lt_of_le hlw0 hb.size
  replace hlg0 : w2.heap.size < w6.heap.size := Nat.lt_of_lt_of_le hlg0 hb.size
  replace HB := Aside0.mk (below_on HB.out HB.out.size hb)
  clear hb
  obtain ⟨A6_0, c6_0, rfl⟩ := HO6_0.slice
  go_wp2_with fail
  refine calls_named fun W7 hW => ?_
  have hs : Below w6.heap.size w6 W7 := by rw [hW]; repeat (first | exact Below.refl _ _ | apply below_alloc | apply below_drew1 | apply pw_below_drewN)
  have hch0_0 : W7.cell? ⟨w6.heap.size, 0, none⟩ = some (.slice A6_0 r_0.length c6_0) := by rw [hW]; go_simp
  have hlh0 : w6.heap.size < W7.heap.size := by rw [hW]; simp <;> omega
  have zlh0 := Aside0.mk hlh0
  clear hW
  replace hcw0_0 := pw_cell_below hs hcw0_0
  replace hcg0_0 := pw_cell_below hs hcg0_0
  replace HO1_0 := HO1_0.below hs
  replace HO2_0 := HO2_0.below hs
  replace HO6_0 := HO6_0.below hs
  replace hlw0 : w1.heap.size < W7.heap.size := Nat.lt_of_lt_of_le hlw0 hs.size
  replace hlg0 : w2.heap.size < W7.heap.size := Nat.lt_of_lt_of_le hlg0 hs.size
  replace HB := Aside0.mk (below_on HB.out HB.out.size hs)
  have zs7 := Aside0.mk hs.size
  clear hs
  obtain ⟨kk7, e_7⟩ := E3.out
  replace e_7 := Aside0.mk e_7
  refine (laws_eqMatrix.calls kk7 _ _ r_0 _ _ r_0 true W7 HO6_0.C HO6_0.cap HO1_0.C HO1_0.cap e_7.out).mono ?_
  rintro e w7 ⟨rfl, hb⟩
  clear e_7
  have zc7 := Aside0.mk hb.size
  replace hcw0_0 := pw_cell_below hb hcw0_0
  replace hcg0_0 := pw_cell_below hb hcg0_0
  replace hch0_0 := pw_cell_below hb hch0_0
  replace HO1_0 := HO1_0.below hb
  replace HO2_0 := HO2_0.below hb
  replace HO6_0 := HO6_0.below hb
  replace hlw0 : w1.heap.size < w7.heap.size := Nat.lt_of_lt_of_le hlw0 hb.size
  replace hlg0 : w2.heap.size < w7.heap.size := Nat.lt_of_lt_of_le hlg0 hb.size
  replace hlh0 : w6.heap.size < w7.heap.size := Nat.lt_of_lt_of_le hlh0 hb.size
  replace HB := Aside0.mk (below_on HB.out HB.out.size hb)
  clear hb
  go_wp2_with fail
  refine calls_named fun W8 hW => ?_
  have hs : Below w7.heap.size w7 W8 := by rw [hW]; repeat (first | exact Below.refl _ _ | apply below_alloc | apply below_drew1 | apply pw_below_drewN)
  clear hW
  replace hcw0_0 := pw_cell_below hs hcw0_0
  replace hcg0_0 := pw_cell_below hs hcg0_0
  replace hch0_0 := pw_cell_below hs hch0_0
  replace HO1_0 := HO1_0.below hs
  replace HO2_0 := HO2_0.below hs
  replace HO6_0 := HO6_0.below hs
  replace hlw0 : w1.heap.size < W8.heap.size := Nat.lt_of_lt_of_le hlw0 hs.size
  replace hlg0 : w2.heap.size < W8.heap.size := Nat.lt_of_lt_of_le hlg0 hs.size
  replace hlh0 : w6.heap.size < W8.heap.size := Nat.lt_of_lt_of_le hlh0 hs.size
  replace HB := Aside0.mk (below_on HB.out HB.out.size hs)
  have zs8 := Aside0.mk hs.size
  clear hs
  obtain ⟨kk8, e_8⟩ := E4.out
  replace e_8 := Aside0.mk e_8
  refine calls_of_args (args' := #[.agg #[.slice A2_0 (markSS 1 r_0).length c2_0], .int .i64 1]) (by simp [markSS_length, markB_length, markI_length]) ?_
  refine (laws_heldMatrix.calls kk8 _ _ (markSS 1 r_0) 1 (1 + ((totSS r_0 : Nat) : Int)) W8 HO2_0.C HO2_0.cap e_8.out).mono ?_
  rintro e w8 ⟨rfl, hb⟩
  clear e_8
  have zc8 := Aside0.mk hb.size
  replace hcw0_0 := pw_cell_below hb hcw0_0
  replace hcg0_0 := pw_cell_below hb hcg0_0
  replace hch0_0 := pw_cell_below hb hch0_0
  replace HO1_0 := HO1_0.below hb
  replace HO2_0 := HO2_0.below hb
  replace HO6_0 := HO6_0.below hb
  replace hlw0 : w1.heap.size < w8.heap.size := Nat.lt_of_lt_of_le hlw0 hb.size
  replace hlg0 : w2.heap.size < w8.heap.size := Nat.lt_of_lt_of_le hlg0 hb.size
  replace hlh0 : w6.heap.size < w8.heap.size := Nat.lt_of_lt_of_le hlh0 hb.size
  replace HB := Aside0.mk (below_on HB.out HB.out.size hb)
  clear hb
  go_wp2
  go_ret
  exact ⟨rfl, by repeat (first | exact HB.out | apply below_alloc | apply below_drew1 | apply pw_below_drewN)⟩
end Go.Proofs.Ytelkciakdhiicaa.PFnExactCodeMatrix
