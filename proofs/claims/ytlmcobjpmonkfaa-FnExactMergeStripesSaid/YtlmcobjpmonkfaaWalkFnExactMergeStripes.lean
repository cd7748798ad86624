/- The walk through the law FnExactMergeStripes, out of the contracts of what it calls. -/
import Derived.Test.YtlmcobjpmonkfaaPFnExactMergeStripesx
import Derived.Test.YtlmcobjpmonkfaaVMergeStripesLawKit
import Derived.Test.YtlmcobjpmonkfaaVMergeStripesTxt
namespace Go.Proofs.Ytlmcobjpmonkfaa.PFnExactMergeStripes
open Go.RowKit Go.Proofs.YtlmcobjpmonkfaaW.PrintWords Go.Proofs.YtlmcobjpmonkfaaW.PrintLast Go.Proofs.YtlmcobjpmonkfaaW.PrintMore Go.Proofs.Ytlmcobjpmonkfaa.Gf Go.Proofs.Ytlmcobjpmonkfaa.Kit Go.Proofs.Ytlmcobjpmonkfaa.LawKit
set_option linter.unusedVariables false
set_option linter.unusedSimpArgs false
def laws_FnExactMergeStripes.Facts0 (l0_0 : List (ByteArray)) (l0_1 : List (ByteArray)) (l1_0 : List (ByteArray)) (l1_1 : List (ByteArray)) : Prop := ∃ s_0 : Int, (∃ k, laws_szStripe.f k l0_0 l0_1 1048576 = some s_0) ∧ (s_0 < 0)
def laws_FnExactMergeStripes.Facts1 (l0_0 : List (ByteArray)) (l0_1 : List (ByteArray)) (l1_0 : List (ByteArray)) (l1_1 : List (ByteArray)) : Prop := ∃ s_0 : Int, ∃ s_1 : Int, (∃ k, laws_szStripe.f k l0_0 l0_1 1048576 = some s_0) ∧ (¬ s_0 < 0) ∧ (∃ k, laws_szStripe.f k l1_0 l1_1 s_0 = some s_1) ∧ (s_1 < 0)
def laws_FnExactMergeStripes.Facts2 (l0_0 : List (ByteArray)) (l0_1 : List (ByteArray)) (l1_0 : List (ByteArray)) (l1_1 : List (ByteArray)) : Prop := ∃ s_0 : Int, ∃ s_1 : Int, ∃ r_0 : List (ByteArray), ∃ r_1 : List (ByteArray), ∃ r_2 : Bool, ∃ t_aA_0 : List (ByteArray), ∃ t_aA_1 : List (ByteArray), ∃ t_aB_0 : List (ByteArray), ∃ t_aB_1 : List (ByteArray), (∃ k, laws_szStripe.f k l0_0 l0_1 1048576 = some s_0) ∧ (¬ s_0 < 0) ∧ (∃ k, laws_szStripe.f k l1_0 l1_1 s_0 = some s_1) ∧ (¬ s_1 < 0) ∧ (∃ k, laws_toStripe.f k l0_0 l0_1 = some (t_aA_0, t_aA_1)) ∧ (∃ k, laws_toStripe.f k l1_0 l1_1 = some (t_aB_0, t_aB_1)) ∧ (∃ k, spec_MergeStripes.f k t_aA_0 t_aA_1 t_aB_0 t_aB_1 = some (r_0, r_1, r_2)) ∧ (∃ k, impl_MergeStripes.f k t_aA_0 t_aA_1 t_aB_0 t_aB_1 = some (r_0, r_1, r_2)) ∧ (∃ k, laws_eqStripe.f k r_0 r_1 r_0 r_1 = some true) ∧ (∃ k, laws_eqStripe.f k t_aA_0 t_aA_1 t_aA_0 t_aA_1 = some true) ∧ (∃ k, laws_eqStripe.f k t_aB_0 t_aB_1 t_aB_0 t_aB_1 = some true) ∧ (∃ k, laws_heldStripe.f k (markTS 1 r_0.length) (markTS (1 + ((r_0.length : Nat) : Int)) r_1.length) 1 = some (1 + ((r_0.length : Nat) : Int) + ((r_1.length : Nat) : Int))) ∧ (∀ (l m : List ByteArray) (a : Int), 0 ≤ a → a + l.length + m.length < 4611686018427387904 → ∃ k, laws_markStripe.f k l m a = some (a + ((l.length : Nat) : Int) + ((m.length : Nat) : Int), markTS a l.length, markTS (a + ((l.length : Nat) : Int)) m.length)) ∧ (t_aA_0.length < 1152921504606846976) ∧ (t_aA_1.length < 1152921504606846976) ∧ (t_aB_0.length < 1152921504606846976) ∧ (t_aB_1.length < 1152921504606846976) ∧ (r_0.length < 1152921504606846976) ∧ (r_1.length < 1152921504606846976)
def laws_FnExactMergeStripes.Facts (l0_0 : List (ByteArray)) (l0_1 : List (ByteArray)) (l1_0 : List (ByteArray)) (l1_1 : List (ByteArray)) : Prop := laws_FnExactMergeStripes.Facts0 l0_0 l0_1 l1_0 l1_1 ∨ laws_FnExactMergeStripes.Facts1 l0_0 l0_1 l1_0 l1_1 ∨ laws_FnExactMergeStripes.Facts2 l0_0 l0_1 l1_0 l1_1
set_option maxHeartbeats 16000000 in
set_option maxRecDepth 100000 in
theorem laws_FnExactMergeStripes.calls (A0_0 : Option Addr) (c0_0 : Nat) (l0_0 : List (ByteArray)) (A0_1 : Option Addr) (c0_1 : Nat) (l0_1 : List (ByteArray)) (A1_0 : Option Addr) (c1_0 : Nat) (l1_0 : List (ByteArray)) (A1_1 : Option Addr) (c1_1 : Nat) (l1_1 : List (ByteArray)) (w : World) (hr0_0 : Kd.C Kd.string w A0_0 l0_0.length l0_0) (hc0_0 : l0_0.length ≤ c0_0) (hr0_1 : Kd.C Kd.string w A0_1 l0_1.length l0_1) (hc0_1 : l0_1.length ≤ c0_1) (hr1_0 : Kd.C Kd.string w A1_0 l1_0.length l1_0) (hc1_0 : l1_0.length ≤ c1_0) (hr1_1 : Kd.C Kd.string w A1_1 l1_1.length l1_1) (hc1_1 : l1_1.length ≤ c1_1) (h : laws_FnExactMergeStripes.Facts l0_0 l0_1 l1_0 l1_1) :
  Calls Try.prog 5 #[.agg #[.slice A0_0 l0_0.length c0_0, .slice A0_1 l0_1.length c0_1], .agg #[.slice A1_0 l1_0.length c1_0, .slice A1_1 l1_1.length c1_1]] w fun e w' => e = .returned (.bool true) ∧ Below w.heap.size w w' := by
 have HR0_0 := Aside0.mk hr0_0
 have HC0_0 := Aside0.mk hc0_0
 clear hr0_0 hc0_0
 have HR0_1 := Aside0.mk hr0_1
 have HC0_1 := Aside0.mk hc0_1
 clear hr0_1 hc0_1
 have HR1_0 := Aside0.mk hr1_0
 have HC1_0 := Aside0.mk hc1_0
 clear hr1_0 hc1_0
 have HR1_1 := Aside0.mk hr1_1
 have HC1_1 := Aside0.mk hc1_1
 clear hr1_1 hc1_1
 have HB := Aside0.mk (Below.refl w.heap.size w)
 rcases h with h | h | h
 ·obtain ⟨s_0, E0, G1⟩ := h
  replace E0 := Aside0.mk E0
  replace G1 := Aside0.mk G1
  go_enter Try.func5, Try.ntmps5
  go_wp2_with fail
  refine calls_named fun W1 hW => ?_
  have hs : Below w.heap.size w W1 := by rw [hW]; repeat (first | exact Below.refl _ _ | apply below_alloc | apply below_drew1 | apply pw_below_drewN)
  have hcaA_0 : W1.cell? ⟨w.heap.size, 0, none⟩ = some (.slice A0_0 l0_0.length c0_0) := by rw [hW]; go_simp
  have hcaA_1 : W1.cell? ⟨w.heap.size, 1, none⟩ = some (.slice A0_1 l0_1.length c0_1) := by rw [hW]; go_simp
  have hlaA : w.heap.size < W1.heap.size := by rw [hW]; simp <;> omega
  have zlaA := Aside0.mk hlaA
  have hcaB_0 : W1.cell? ⟨w.heap.size + 1, 0, none⟩ = some (.slice A1_0 l1_0.length c1_0) := by rw [hW]; go_simp
  have hcaB_1 : W1.cell? ⟨w.heap.size + 1, 1, none⟩ = some (.slice A1_1 l1_1.length c1_1) := by rw [hW]; go_simp
  have hlaB : w.heap.size + 1 < W1.heap.size := by rw [hW]; simp <;> omega
  have zlaB := Aside0.mk hlaB
  clear hW
  replace HB := Aside0.mk (below_on HB.out HB.out.size hs)
  have zs1 := Aside0.mk hs.size
  clear hs
  obtain ⟨kk1, e_1⟩ := E0.out
  replace e_1 := Aside0.mk e_1
  refine (laws_szStripe.calls kk1 _ _ l0_0 _ _ l0_1 1048576 s_0 W1 (Kd.C_below HR0_0.out HB.out) HC0_0.out (Kd.C_below HR0_1.out HB.out) HC0_1.out e_1.out).mono ?_
  rintro e w1 ⟨rfl, hb⟩
  clear e_1
  have zc1 := Aside0.mk hb.size
  replace hcaA_0 := pw_cell_below hb hcaA_0
  replace hcaA_1 := pw_cell_below hb hcaA_1
  replace hcaB_0 := pw_cell_below hb hcaB_0
  replace hcaB_1 := pw_cell_below hb hcaB_1
  replace hlaA : w.heap.size < w1.heap.size := Nat.lt_of_lt_of_le hlaA hb.size
  replace hlaB : w.heap.size + 1 < w1.heap.size := Nat.lt_of_lt_of_le hlaB hb.size
  replace HB := Aside0.mk (below_on HB.out HB.out.size hb)
  clear hb
  have hg1 := decide_eq_true (show s_0 < 0 by have := G1.out; omega)
  go_wp2
  go_ret
  exact ⟨rfl, by repeat (first | exact HB.out | apply below_alloc | apply below_drew1 | apply pw_below_drewN)⟩
 ·obtain ⟨s_0, s_1, E0, G1, E1, G2⟩ := h
  replace E0 := Aside0.mk E0
  replace G1 := Aside0.mk G1
  replace E1 := Aside0.mk E1
  replace G2 := Aside0.mk G2
  go_enter Try.func5, Try.ntmps5
  go_wp2_with fail
  refine calls_named fun W1 hW => ?_
  have hs : Below w.heap.size w W1 := by rw [hW]; repeat (first | exact Below.refl _ _ | apply below_alloc | apply below_drew1 | apply pw_below_drewN)
  have hcaA_0 : W1.cell? ⟨w.heap.size, 0, none⟩ = some (.slice A0_0 l0_0.length c0_0) := by rw [hW]; go_simp
  have hcaA_1 : W1.cell? ⟨w.heap.size, 1, none⟩ = some (.slice A0_1 l0_1.length c0_1) := by rw [hW]; go_simp
  have hlaA : w.heap.size < W1.heap.size := by rw [hW]; simp <;> omega
  have zlaA := Aside0.mk hlaA
  have hcaB_0 : W1.cell? ⟨w.heap.size + 1, 0, none⟩ = some (.slice A1_0 l1_0.length c1_0) := by rw [hW]; go_simp
  have hcaB_1 : W1.cell? ⟨w.heap.size + 1, 1, none⟩ = some (.slice A1_1 l1_1.length c1_1) := by rw [hW]; go_simp
  have hlaB : w.heap.size + 1 < W1.heap.size := by rw [hW]; simp <;> omega
  have zlaB := Aside0.mk hlaB
  clear hW
  replace HB := Aside0.mk (below_on HB.out HB.out.size hs)
  have zs1 := Aside0.mk hs.size
  clear hs
  obtain ⟨kk1, e_1⟩ := E0.out
  replace e_1 := Aside0.mk e_1
  refine (laws_szStripe.calls kk1 _ _ l0_0 _ _ l0_1 1048576 s_0 W1 (Kd.C_below HR0_0.out HB.out) HC0_0.out (Kd.C_below HR0_1.out HB.out) HC0_1.out e_1.out).mono ?_
  rintro e w1 ⟨rfl, hb⟩
  clear e_1
  have zc1 := Aside0.mk hb.size
  replace hcaA_0 := pw_cell_below hb hcaA_0
  replace hcaA_1 := pw_cell_below hb hcaA_1
  replace hcaB_0 := pw_cell_below hb hcaB_0
  replace hcaB_1 := pw_cell_below hb hcaB_1
  replace hlaA : w.heap.size < w1.heap.size := Nat.lt_of_lt_of_le hlaA hb.size
  replace hlaB : w.heap.size + 1 < w1.heap.size := Nat.lt_of_lt_of_le hlaB hb.size
  replace HB := Aside0.mk (below_on HB.out HB.out.size hb)
  clear hb
  have hg1 := decide_eq_false (show ¬ (s_0 < 0) by have := G1.out; omega)
  go_wp2_with fail
  refine calls_named fun W2 hW => ?_
  have hs : Below w1.heap.size w1 W2 := by rw [hW]; repeat (first | exact Below.refl _ _ | apply below_alloc | apply below_drew1 | apply pw_below_drewN)
  clear hW
  replace hcaA_0 := pw_cell_below hs hcaA_0
  replace hcaA_1 := pw_cell_below hs hcaA_1
  replace hcaB_0 := pw_cell_below hs hcaB_0
  replace hcaB_1 := pw_cell_below hs hcaB_1
  replace hlaA : w.heap.size < W2.heap.size := Nat.lt_of_lt_of_le hlaA hs.size
  replace hlaB : w.heap.size + 1 < W2.heap.size := Nat.lt_of_lt_of_le hlaB hs.size
  replace HB := Aside0.mk (below_on HB.out HB.out.size hs)
  have zs2 := Aside0.mk hs.size
  clear hs
  obtain ⟨kk2, e_2⟩ := E1.out
  replace e_2 := Aside0.mk e_2
  refine (laws_szStripe.calls kk2 _ _ l1_0 _ _ l1_1 s_0 s_1 W2 (Kd.C_below HR1_0.out HB.out) HC1_0.out (Kd.C_below HR1_1.out HB.out) HC1_1.out e_2.out).mono ?_
  rintro e w2 ⟨rfl, hb⟩
  clear e_2
  have zc2 := Aside0.mk hb.size
  replace hcaA_0 := pw_cell_below hb hcaA_0
  replace hcaA_1 := pw_cell_below hb hcaA_1
  replace hcaB_0 := pw_cell_below hb hcaB_0
  replace hcaB_1 := pw_cell_below hb hcaB_1
  replace hlaA : w.heap.size < w2.heap.size := Nat.lt_of_lt_of_le hlaA hb.size
  replace hlaB : w.heap.size + 1 < w2.heap.size := Nat.lt_of_lt_of_le hlaB hb.size
  replace HB := Aside0.mk (below_on HB.out HB.out.size hb)
  clear hb
  have hg2 := decide_eq_true (show s_1 < 0 by have := G2.out; omega)
  go_wp2
  go_ret
  exact ⟨rfl, by repeat (first | exact HB.out | apply below_alloc | apply below_drew1 | apply pw_below_drewN)⟩
 ·obtain ⟨s_0, s_1, r_0, r_1, r_2, t_aA_0, t_aA_1, t_aB_0, t_aB_1, E0, G1, E1, G2, E5, E6, E7, E8, E9, E10, E11, E12, HMT2, HT0, HT1, HT2, HT3, HT4, HT5⟩ := h
  replace E0 := Aside0.mk E0
  replace G1 := Aside0.mk G1
  replace E1 := Aside0.mk E1
  replace G2 := Aside0.mk G2
  replace E5 := Aside0.mk E5
  replace E6 := Aside0.mk E6
  replace E7 := Aside0.mk E7
  replace E8 := Aside0.mk E8
  replace E9 := Aside0.mk E9
  replace E10 := Aside0.mk E10
  replace E11 := Aside0.mk E11
  replace E12 := Aside0.mk E12
  replace HMT2 := Aside0.mk HMT2
  replace HT0 := Aside0.mk HT0
  replace HT1 := Aside0.mk HT1
  replace HT2 := Aside0.mk HT2
  replace HT3 := Aside0.mk HT3
  replace HT4 := Aside0.mk HT4
  replace HT5 := Aside0.mk HT5
  go_enter Try.func5, Try.ntmps5
  go_wp2_with fail
  refine calls_named fun W1 hW => ?_
  have hs : Below w.heap.size w W1 := by rw [hW]; repeat (first | exact Below.refl _ _ | apply below_alloc | apply below_drew1 | apply pw_below_drewN)
  have hcaA_0 : W1.cell? ⟨w.heap.size, 0, none⟩ = some (.slice A0_0 l0_0.length c0_0) := by rw [hW]; go_simp
  have hcaA_1 : W1.cell? ⟨w.heap.size, 1, none⟩ = some (.slice A0_1 l0_1.length c0_1) := by rw [hW]; go_simp
  have hlaA : w.heap.size < W1.heap.size := by rw [hW]; simp <;> omega
  have zlaA := Aside0.mk hlaA
  have hcaB_0 : W1.cell? ⟨w.heap.size + 1, 0, none⟩ = some (.slice A1_0 l1_0.length c1_0) := by rw [hW]; go_simp
  have hcaB_1 : W1.cell? ⟨w.heap.size + 1, 1, none⟩ = some (.slice A1_1 l1_1.length c1_1) := by rw [hW]; go_simp
  have hlaB : w.heap.size + 1 < W1.heap.size := by rw [hW]; simp <;> omega
  have zlaB := Aside0.mk hlaB
  clear hW
  replace HB := Aside0.mk (below_on HB.out HB.out.size hs)
  have zs1 := Aside0.mk hs.size
  clear hs
  obtain ⟨kk1, e_1⟩ := E0.out
  replace e_1 := Aside0.mk e_1
  refine (laws_szStripe.calls kk1 _ _ l0_0 _ _ l0_1 1048576 s_0 W1 (Kd.C_below HR0_0.out HB.out) HC0_0.out (Kd.C_below HR0_1.out HB.out) HC0_1.out e_1.out).mono ?_
  rintro e w1 ⟨rfl, hb⟩
  clear e_1
  have zc1 := Aside0.mk hb.size
  replace hcaA_0 := pw_cell_below hb hcaA_0
  replace hcaA_1 := pw_cell_below hb hcaA_1
  replace hcaB_0 := pw_cell_below hb hcaB_0
  replace hcaB_1 := pw_cell_below hb hcaB_1
  replace hlaA : w.heap.size < w1.heap.size := Nat.lt_of_lt_of_le hlaA hb.size
  replace hlaB : w.heap.size + 1 < w1.heap.size := Nat.lt_of_lt_of_le hlaB hb.size
  replace HB := Aside0.mk (below_on HB.out HB.out.size hb)
  clear hb
  have hg1 := decide_eq_false (show ¬ (s_0 < 0) by have := G1.out; omega)
  go_wp2_with fail
  refine calls_named fun W2 hW => ?_
  have hs : Below w1.heap.size w1 W2 := by rw [hW]; repeat (first | exact Below.refl _ _ | apply below_alloc | apply below_drew1 | apply pw_below_drewN)
  clear hW
  replace hcaA_0 := pw_cell_below hs hcaA_0
  replace hcaA_1 := pw_cell_below hs hcaA_1
  replace hcaB_0 := pw_cell_below hs hcaB_0
  replace hcaB_1 := pw_cell_below hs hcaB_1
  replace hlaA : w.heap.size < W2.heap.size := Nat.lt_of_lt_of_le hlaA hs.size
  replace hlaB : w.heap.size + 1 < W2.heap.size := Nat.lt_of_lt_of_le hlaB hs.size
  replace HB := Aside0.mk (below_on HB.out HB.out.size hs)
  have zs2 := Aside0.mk hs.size
  clear hs
  obtain ⟨kk2, e_2⟩ := E1.out
  replace e_2 := Aside0.mk e_2
  refine (laws_szStripe.calls kk2 _ _ l1_0 _ _ l1_1 s_0 s_1 W2 (Kd.C_below HR1_0.out HB.out) HC1_0.out (Kd.C_below HR1_1.out HB.out) HC1_1.out e_2.out).mono ?_
  rintro e w2 ⟨rfl, hb⟩
  clear e_2
  have zc2 := Aside0.mk hb.size
  replace hcaA_0 := pw_cell_below hb hcaA_0
  replace hcaA_1 := pw_cell_below hb hcaA_1
  replace hcaB_0 := pw_cell_below hb hcaB_0
  replace hcaB_1 := pw_cell_below hb hcaB_1
  replace hlaA : w.heap.size < w2.heap.size := Nat.lt_of_lt_of_le hlaA hb.size
  replace hlaB : w.heap.size + 1 < w2.heap.size := Nat.lt_of_lt_of_le hlaB hb.size
  replace HB := Aside0.mk (below_on HB.out HB.out.size hb)
  clear hb
  have hg2 := decide_eq_false (show ¬ (s_1 < 0) by have := G2.out; omega)
  go_wp2_with fail
  have hd : Below w2.heap.size w2 w2.drew := below_drew1 (Below.refl _ _)
  refine start_ (n := 11) (S := fun w' => w'.cell? ⟨w.heap.size, 0, none⟩ = some (.slice A0_0 l0_0.length c0_0) ∧ w'.cell? ⟨w.heap.size, 1, none⟩ = some (.slice A0_1 l0_1.length c0_1) ∧ w'.cell? ⟨w.heap.size + 1, 0, none⟩ = some (.slice A1_0 l1_0.length c1_0) ∧ w'.cell? ⟨w.heap.size + 1, 1, none⟩ = some (.slice A1_1 l1_1.length c1_1)) (ds := [9]) #[false, false, false, false, false, false, false, false, false, false, false] (by kernel_rfl) rfl rfl ⟨pw_cell_below hd hcaA_0, pw_cell_below hd hcaA_1, pw_cell_below hd hcaB_0, pw_cell_below hd hcaB_1⟩ (fun hHeld => ?_)
  generalize w2.drew = W3 at hd hHeld ⊢
  have zs3 := Aside0.mk hd.size
  replace hcaA_0 := pw_cell_below hd hcaA_0
  replace hcaA_1 := pw_cell_below hd hcaA_1
  replace hcaB_0 := pw_cell_below hd hcaB_0
  replace hcaB_1 := pw_cell_below hd hcaB_1
  replace hlaA : w.heap.size < W3.heap.size := Nat.lt_of_lt_of_le hlaA hd.size
  replace hlaB : w.heap.size + 1 < W3.heap.size := Nat.lt_of_lt_of_le hlaB hd.size
  replace HB := Aside0.mk (below_on HB.out HB.out.size hd)
  clear hd
  refine take_ (i := 0) (N := some 28) (v := ?_) (a' := ?_) #[true, false, false, false, false, false, false, false, false, false, false] rfl rfl (by kernel_rfl) (fun _ _ _ h => h) (Or.inl ⟨by rfl, ?_⟩) hHeld ?_ ?_
  rotate_left
  ·rintro w' ⟨s0, s1, s2, s3⟩
   go_simp
   with_reducible rfl
  rotate_left
  ·simp only [Act.put, List.setIfInBounds_toArray, List.set_cons_zero, List.set_cons_succ, i64_w, i32_w]
   rfl
  refine take_ (i := 2) (N := some 30) (v := ?_) (a' := ?_) #[true, false, true, false, false, false, false, false, false, false, false] rfl rfl (by kernel_rfl) (fun _ _ _ h => h) (Or.inl ⟨by rfl, ?_⟩) hHeld ?_ ?_
  rotate_left
  ·rintro w' ⟨s0, s1, s2, s3⟩
   go_simp
   with_reducible rfl
  rotate_left
  ·simp only [Act.put, List.setIfInBounds_toArray, List.set_cons_zero, List.set_cons_succ, i64_w, i32_w]
   rfl
  refine join_ (σ := Option Addr × Option Addr × Nat × Nat × Option Addr × Option Addr × Nat × Nat × Option Addr × Option Addr × Nat × Nat × Nat × Nat × Nat) 2 #[true, true, true, true, true, true, true, true, true, false, false] (fun ⟨Ax0q5100, Ax1q5100, cx0q5100, cx1q5100, Ay0q5100, Ay1q5100, cy0q5100, cy1q5100, Az0q5100, Az1q5100, cz0q5100, cz1q5100, bqq5100, loq5100, hiq5100⟩ => [(29, .agg #[.slice Ax0q5100 t_aA_0.length cx0q5100, .slice Ax1q5100 t_aA_1.length cx1q5100]), (31, .agg #[.slice Ay0q5100 t_aB_0.length cy0q5100, .slice Ay1q5100 t_aB_1.length cy1q5100]), (32, .tuple #[.agg #[.slice Az0q5100 r_0.length cz0q5100, .slice Az1q5100 r_1.length cz1q5100], .bool r_2]), (27, .tuple #[.agg #[.slice Az0q5100 r_0.length cz0q5100, .slice Az1q5100 r_1.length cz1q5100], .bool r_2]), (33, .agg #[.slice Az0q5100 r_0.length cz0q5100, .slice Az1q5100 r_1.length cz1q5100]), (34, .bool r_2), (6, .pointer (some ⟨bqq5100, 0, none⟩))]) (fun ⟨Ax0q5100, Ax1q5100, cx0q5100, cx1q5100, Ay0q5100, Ay1q5100, cy0q5100, cy1q5100, Az0q5100, Az1q5100, cz0q5100, cz1q5100, bqq5100, loq5100, hiq5100⟩ w' => Below W3.heap.size W3 w' ∧ W3.heap.size ≤ loq5100 ∧ hiq5100 ≤ w'.heap.size ∧ W3.heap.size ≤ bqq5100 ∧ ¬ (loq5100 ≤ bqq5100 ∧ bqq5100 < hiq5100) ∧ w'.heap[bqq5100]? = some (.cells #[.slice none 0 0, .slice none 0 0] 27 (0, 0)) ∧ OwnR Kd.string 9 w.heap.size loq5100 hiq5100 w' (.slice Az0q5100 r_0.length cz0q5100) r_0 ∧ OwnR Kd.string 9 w.heap.size loq5100 hiq5100 w' (.slice Az1q5100 r_1.length cz1q5100) r_1) ?_ ?_
  rotate_left
  ·intro hCont
   have hT : Aside0 (Below W3.heap.size W3 W3) := ⟨Below.refl _ _⟩
   refine two_ (i := 1) (j := 8) (Ni := some 29) (Nj := some 6) #[true, true, true, false, false, false, false, false, false, false, false] #[true, false, true, false, false, false, false, false, true, false, false] rfl rfl rfl rfl (by kernel_rfl) (by decide) (by decide) (fun K hK => ?_) (fun K hK => ?_)
   ·-- the first call
    refine goes_ Try.func17 (by kernel_rfl) rfl #[.agg #[.slice A0_0 l0_0.length c0_0, .slice A0_1 l0_1.length c0_1]] (by rfl) rfl rfl (by (try simp only [List.map_toArray, List.map_cons, List.map_nil]); first | done | rfl | (simp only [List.length_drop, List.length_take]; rfl)) ?_
    obtain ⟨kk, e_⟩ := E5.out
    replace e_ := Aside0.mk e_
    refine (laws_toStripe.calls kk _ _ l0_0 _ _ l0_1 t_aA_0 t_aA_1 W3 (Kd.C_below HR0_0.out (below_on HB.out HB.out.size hT.out)) HC0_0.out (Kd.C_below HR0_1.out (below_on HB.out HB.out.size hT.out)) HC0_1.out e_.out).mono ?_
    rintro e u1 ⟨vx0, vx1, rfl, hx0, hx1, hb⟩
    refine ⟨_, rfl, ?_⟩
    clear e_
    have Ox0 := OwnR.new (b := w.heap.size) hx0 (below_on HB.out HB.out.size hT.out).size
    have Ox1 := OwnR.new (b := w.heap.size) hx1 (below_on HB.out HB.out.size hT.out).size
    clear hx0 hx1
    replace hT : Aside0 (Below W3.heap.size W3 _) := ⟨below_on hT.out hT.out.size hb⟩
    clear hb
    obtain ⟨Ax0q5100, cx0q5100, rfl⟩ := Ox0.slice
    obtain ⟨Ax1q5100, cx1q5100, rfl⟩ := Ox1.slice
    refine hK.out _ _ ⟨pw_cell_below hT.out hcaA_0, pw_cell_below hT.out hcaA_1, pw_cell_below hT.out hcaB_0, pw_cell_below hT.out hcaB_1⟩ (fun hHeld => ?_)
    clear hK K
    refine norm_ (a' := ?_) ?_ ?_
    rotate_left
    ·show Act.put _ (some 29) _ = _
     simp only [Act.put, List.setIfInBounds_toArray, List.set_cons_zero, List.set_cons_succ, i64_w, i32_w]
     rfl
    refine two_ (i := 3) (j := 8) (Ni := some 31) (Nj := some 6) #[true, true, true, true, false, false, false, false, false, false, false] #[true, true, true, false, false, false, false, false, true, false, false] rfl rfl rfl rfl (by kernel_rfl) (by decide) (by decide) (fun K hK => ?_) (fun K hK => ?_)
    ·-- the second call
     refine goes_ Try.func17 (by kernel_rfl) rfl #[.agg #[.slice A1_0 l1_0.length c1_0, .slice A1_1 l1_1.length c1_1]] (by rfl) rfl rfl (by (try simp only [List.map_toArray, List.map_cons, List.map_nil]); first | done | rfl | (simp only [List.length_drop, List.length_take]; rfl)) ?_
     obtain ⟨kk, e_⟩ := E6.out
     replace e_ := Aside0.mk e_
     refine (laws_toStripe.calls kk _ _ l1_0 _ _ l1_1 t_aB_0 t_aB_1 u1 (Kd.C_below HR1_0.out (below_on HB.out HB.out.size hT.out)) HC1_0.out (Kd.C_below HR1_1.out (below_on HB.out HB.out.size hT.out)) HC1_1.out e_.out).mono ?_
     rintro e u2 ⟨vy0, vy1, rfl, hy0, hy1, hb⟩
     refine ⟨_, rfl, ?_⟩
     clear e_
     have Oy0 := OwnR.new (b := w.heap.size) hy0 (below_on HB.out HB.out.size hT.out).size
     have Oy1 := OwnR.new (b := w.heap.size) hy1 (below_on HB.out HB.out.size hT.out).size
     clear hy0 hy1
     replace Ox0 := Ox0.below hb
     replace Ox1 := Ox1.below hb
     replace hT : Aside0 (Below W3.heap.size W3 _) := ⟨below_on hT.out hT.out.size hb⟩
     clear hb
     obtain ⟨Ay0q5100, cy0q5100, rfl⟩ := Oy0.slice
     obtain ⟨Ay1q5100, cy1q5100, rfl⟩ := Oy1.slice
     refine hK.out _ _ ⟨pw_cell_below hT.out hcaA_0, pw_cell_below hT.out hcaA_1, pw_cell_below hT.out hcaB_0, pw_cell_below hT.out hcaB_1⟩ (fun hHeld => ?_)
     clear hK K
     refine norm_ (a' := ?_) ?_ ?_
     rotate_left
     ·show Act.put _ (some 31) _ = _
      simp only [Act.put, List.setIfInBounds_toArray, List.set_cons_zero, List.set_cons_succ, i64_w, i32_w]
      rfl
     refine two_ (i := 4) (j := 8) (Ni := some 32) (Nj := some 6) #[true, true, true, true, true, false, false, false, false, false, false] #[true, true, true, true, false, false, false, false, true, false, false] rfl rfl rfl rfl (by kernel_rfl) (by decide) (by decide) (fun K hK => ?_) (fun K hK => ?_)
     ·-- the third call
      have hlo0 : W3.heap.size ≤ u2.heap.size := hT.out.size
      refine goes_ Try.func31 (by kernel_rfl) rfl #[.agg #[.slice Ax0q5100 t_aA_0.length cx0q5100, .slice Ax1q5100 t_aA_1.length cx1q5100], .agg #[.slice Ay0q5100 t_aB_0.length cy0q5100, .slice Ay1q5100 t_aB_1.length cy1q5100]] (by rfl) rfl rfl (by (try simp only [List.map_toArray, List.map_cons, List.map_nil]); first | done | rfl | (simp only [List.length_drop, List.length_take]; rfl)) ?_
      obtain ⟨kk, e_⟩ := E7.out
      replace e_ := Aside0.mk e_
      refine (spec_MergeStripes.calls kk _ _ t_aA_0 _ _ t_aA_1 _ _ t_aB_0 _ _ t_aB_1 r_0 r_1 r_2 u2 Ox0.C Ox0.cap Ox1.C Ox1.cap Oy0.C Oy0.cap Oy1.C Oy1.cap e_.out).mono ?_
      rintro e u3 ⟨vz0, vz1, rfl, hz0, hz1, hb⟩
      refine ⟨_, rfl, ?_⟩
      clear e_
      have Oz0 := OwnR.new (b := w.heap.size) hz0 (below_on HB.out HB.out.size hT.out).size
      have Oz1 := OwnR.new (b := w.heap.size) hz1 (below_on HB.out HB.out.size hT.out).size
      clear hz0 hz1
      replace Ox0 := Ox0.below hb
      replace Ox1 := Ox1.below hb
      replace Oy0 := Oy0.below hb
      replace Oy1 := Oy1.below hb
      replace hT : Aside0 (Below W3.heap.size W3 _) := ⟨below_on hT.out hT.out.size hb⟩
      have hz_ := hb.size
      clear hb
      obtain ⟨Az0q5100, cz0q5100, rfl⟩ := Oz0.slice
      obtain ⟨Az1q5100, cz1q5100, rfl⟩ := Oz1.slice
      refine hK.out _ _ ⟨pw_cell_below hT.out hcaA_0, pw_cell_below hT.out hcaA_1, pw_cell_below hT.out hcaB_0, pw_cell_below hT.out hcaB_1⟩ (fun hHeld => ?_)
      clear hK K
      refine norm_ (a' := ?_) ?_ ?_
      rotate_left
      ·show Act.put _ (some 32) _ = _
       simp only [Act.put, List.setIfInBounds_toArray, List.set_cons_zero, List.set_cons_succ, i64_w, i32_w]
       rfl
      refine pure_ (i := 5) (N := some 27) (v := ?_) (a' := ?_) #[true, true, true, true, true, true, false, false, false, false, false] rfl rfl (by kernel_rfl) (fun _ _ _ h => h) (Or.inl ⟨by rfl, ?_⟩) ?_ ?_
      rotate_left
      ·intro w'
       go_simp
       with_reducible rfl
      rotate_left
      ·simp only [Act.put, List.setIfInBounds_toArray, List.set_cons_zero, List.set_cons_succ, i64_w, i32_w]
       rfl
      refine pure_ (i := 6) (N := some 33) (v := ?_) (a' := ?_) #[true, true, true, true, true, true, true, false, false, false, false] rfl rfl (by kernel_rfl) (fun _ _ _ h => h) (Or.inl ⟨by rfl, ?_⟩) ?_ ?_
      rotate_left
      ·intro w'
       go_simp
       with_reducible rfl
      rotate_left
      ·simp only [Act.put, List.setIfInBounds_toArray, List.set_cons_zero, List.set_cons_succ, i64_w, i32_w]
       rfl
      refine pure_ (i := 7) (N := some 34) (v := ?_) (a' := ?_) #[true, true, true, true, true, true, true, true, false, false, false] rfl rfl (by kernel_rfl) (fun _ _ _ h => h) (Or.inl ⟨by rfl, ?_⟩) ?_ ?_
      rotate_left
      ·intro w'
       go_simp
       with_reducible rfl
      rotate_left
      ·simp only [Act.put, List.setIfInBounds_toArray, List.set_cons_zero, List.set_cons_succ, i64_w, i32_w]
       rfl
      refine one_ (i := 8) (N := some 6) #[true, true, true, true, true, true, true, true, true, false, false] rfl rfl (by kernel_rfl) (by decide) (fun K hK => ?_)
      refine value_ (by rfl) rfl (v := .pointer (some ⟨u3.heap.size, 0, none⟩)) (w1 := u3.alloc (.cells #[.slice none 0 0, .slice none 0 0] 27)) ?_ ?_
      ·first | (go_simp; done) | (go_simp; rfl)
      obtain ⟨u4, hw_⟩ : ∃ W_ : World, W_ = u3.alloc (.cells #[.slice none 0 0, .slice none 0 0] 27) := ⟨_, rfl⟩
      rw [← hw_]
      have hb : Below u3.heap.size u3 u4 := by rw [hw_]; exact below_alloc (Below.refl _ _) _
      have hq : u4.heap[u3.heap.size]? = some (.cells #[.slice none 0 0, .slice none 0 0] 27 (0, 0)) := by rw [hw_]; exact heap_alloc_new _ _
      have hbq : W3.heap.size ≤ u3.heap.size := hT.out.size
      have hbl : u3.heap.size < u4.heap.size := by rw [hw_]; simp
      clear hw_
      replace Ox0 := Ox0.below hb
      replace Ox1 := Ox1.below hb
      replace Oy0 := Oy0.below hb
      replace Oy1 := Oy1.below hb
      replace Oz0 := Oz0.below hb
      replace Oz1 := Oz1.below hb
      replace hT : Aside0 (Below W3.heap.size W3 _) := ⟨below_on hT.out hT.out.size hb⟩
      clear hb
      refine hK.out _ _ ⟨pw_cell_below hT.out hcaA_0, pw_cell_below hT.out hcaA_1, pw_cell_below hT.out hcaB_0, pw_cell_below hT.out hcaB_1⟩ (fun hHeld => ?_)
      clear hK K
      refine norm_ (a' := ?_) ?_ ?_
      rotate_left
      ·show Act.put _ (some 6) _ = _
       simp only [Act.put, List.setIfInBounds_toArray, List.set_cons_zero, List.set_cons_succ, i64_w, i32_w]
       rfl
      have hlo_ : W3.heap.size ≤ u2.heap.size := by omega
      have hhi_ : u3.heap.size ≤ u4.heap.size := by omega
      have hne_ : ¬ (u2.heap.size ≤ u3.heap.size ∧ u3.heap.size < u3.heap.size) := by omega
      have hF_ := hCont (Ax0q5100, Ax1q5100, cx0q5100, cx1q5100, Ay0q5100, Ay1q5100, cy0q5100, cy1q5100, Az0q5100, Az1q5100, cz0q5100, cz1q5100, u3.heap.size, u2.heap.size, u3.heap.size) _ ⟨hT.out, hlo_, hhi_, hbq, hne_, hq, Oz0, Oz1⟩
      simp only [putAll, Act.put, List.setIfInBounds_toArray, List.set_cons_zero, List.set_cons_succ] at hF_
      exact hF_
     ·-- the box now
      refine value_ (by rfl) rfl (v := .pointer (some ⟨u2.heap.size, 0, none⟩)) (w1 := u2.alloc (.cells #[.slice none 0 0, .slice none 0 0] 27)) ?_ ?_
      ·first | (go_simp; done) | (go_simp; rfl)
      obtain ⟨u3, hw_⟩ : ∃ W_ : World, W_ = u2.alloc (.cells #[.slice none 0 0, .slice none 0 0] 27) := ⟨_, rfl⟩
      rw [← hw_]
      have hb : Below u2.heap.size u2 u3 := by rw [hw_]; exact below_alloc (Below.refl _ _) _
      have hq : u3.heap[u2.heap.size]? = some (.cells #[.slice none 0 0, .slice none 0 0] 27 (0, 0)) := by rw [hw_]; exact heap_alloc_new _ _
      have hbq : W3.heap.size ≤ u2.heap.size := hT.out.size
      have hbl : u2.heap.size < u3.heap.size := by rw [hw_]; simp
      clear hw_
      replace Ox0 := Ox0.below hb
      replace Ox1 := Ox1.below hb
      replace Oy0 := Oy0.below hb
      replace Oy1 := Oy1.below hb
      replace hT : Aside0 (Below W3.heap.size W3 _) := ⟨below_on hT.out hT.out.size hb⟩
      clear hb
      refine hK.out _ _ ⟨pw_cell_below hT.out hcaA_0, pw_cell_below hT.out hcaA_1, pw_cell_below hT.out hcaB_0, pw_cell_below hT.out hcaB_1⟩ (fun hHeld => ?_)
      clear hK K
      refine norm_ (a' := ?_) ?_ ?_
      rotate_left
      ·show Act.put _ (some 6) _ = _
       simp only [Act.put, List.setIfInBounds_toArray, List.set_cons_zero, List.set_cons_succ, i64_w, i32_w]
       rfl
      refine one_ (i := 4) (N := some 32) #[true, true, true, true, true, false, false, false, true, false, false] rfl rfl (by kernel_rfl) (by decide) (fun K hK => ?_)
      have hlo0 : W3.heap.size ≤ u3.heap.size := hT.out.size
      refine goes_ Try.func31 (by kernel_rfl) rfl #[.agg #[.slice Ax0q5100 t_aA_0.length cx0q5100, .slice Ax1q5100 t_aA_1.length cx1q5100], .agg #[.slice Ay0q5100 t_aB_0.length cy0q5100, .slice Ay1q5100 t_aB_1.length cy1q5100]] (by rfl) rfl rfl (by (try simp only [List.map_toArray, List.map_cons, List.map_nil]); first | done | rfl | (simp only [List.length_drop, List.length_take]; rfl)) ?_
      obtain ⟨kk, e_⟩ := E7.out
      replace e_ := Aside0.mk e_
      refine (spec_MergeStripes.calls kk _ _ t_aA_0 _ _ t_aA_1 _ _ t_aB_0 _ _ t_aB_1 r_0 r_1 r_2 u3 Ox0.C Ox0.cap Ox1.C Ox1.cap Oy0.C Oy0.cap Oy1.C Oy1.cap e_.out).mono ?_
      rintro e u4 ⟨vz0, vz1, rfl, hz0, hz1, hb⟩
      refine ⟨_, rfl, ?_⟩
      clear e_
      have Oz0 := OwnR.new (b := w.heap.size) hz0 (below_on HB.out HB.out.size hT.out).size
      have Oz1 := OwnR.new (b := w.heap.size) hz1 (below_on HB.out HB.out.size hT.out).size
      clear hz0 hz1
      replace Ox0 := Ox0.below hb
      replace Ox1 := Ox1.below hb
      replace Oy0 := Oy0.below hb
      replace Oy1 := Oy1.below hb
      replace hq := blk_below hq hb
      replace hT : Aside0 (Below W3.heap.size W3 _) := ⟨below_on hT.out hT.out.size hb⟩
      have hz_ := hb.size
      have hbl2 : u2.heap.size < u4.heap.size := Nat.lt_of_lt_of_le hbl hb.size
      obtain ⟨Az0q5100, cz0q5100, rfl⟩ := Oz0.slice
      obtain ⟨Az1q5100, cz1q5100, rfl⟩ := Oz1.slice
      refine hK.out _ _ ⟨pw_cell_below hT.out hcaA_0, pw_cell_below hT.out hcaA_1, pw_cell_below hT.out hcaB_0, pw_cell_below hT.out hcaB_1⟩ (fun hHeld => ?_)
      clear hK K
      refine norm_ (a' := ?_) ?_ ?_
      rotate_left
      ·show Act.put _ (some 32) _ = _
       simp only [Act.put, List.setIfInBounds_toArray, List.set_cons_zero, List.set_cons_succ, i64_w, i32_w]
       rfl
      refine pure_ (i := 5) (N := some 27) (v := ?_) (a' := ?_) #[true, true, true, true, true, true, false, false, true, false, false] rfl rfl (by kernel_rfl) (fun _ _ _ h => h) (Or.inl ⟨by rfl, ?_⟩) ?_ ?_
      rotate_left
      ·intro w'
       go_simp
       with_reducible rfl
      rotate_left
      ·simp only [Act.put, List.setIfInBounds_toArray, List.set_cons_zero, List.set_cons_succ, i64_w, i32_w]
       rfl
      refine pure_ (i := 6) (N := some 33) (v := ?_) (a' := ?_) #[true, true, true, true, true, true, true, false, true, false, false] rfl rfl (by kernel_rfl) (fun _ _ _ h => h) (Or.inl ⟨by rfl, ?_⟩) ?_ ?_
      rotate_left
      ·intro w'
       go_simp
       with_reducible rfl
      rotate_left
      ·simp only [Act.put, List.setIfInBounds_toArray, List.set_cons_zero, List.set_cons_succ, i64_w, i32_w]
       rfl
      refine pure_ (i := 7) (N := some 34) (v := ?_) (a' := ?_) #[true, true, true, true, true, true, true, true, true, false, false] rfl rfl (by kernel_rfl) (fun _ _ _ h => h) (Or.inl ⟨by rfl, ?_⟩) ?_ ?_
      rotate_left
      ·intro w'
       go_simp
       with_reducible rfl
      rotate_left
      ·simp only [Act.put, List.setIfInBounds_toArray, List.set_cons_zero, List.set_cons_succ, i64_w, i32_w]
       rfl
      have hlo_ : W3.heap.size ≤ u3.heap.size := by omega
      have hhi_ : u4.heap.size ≤ u4.heap.size := by omega
      have hne_ : ¬ (u3.heap.size ≤ u2.heap.size ∧ u2.heap.size < u4.heap.size) := by omega
      have hF_ := hCont (Ax0q5100, Ax1q5100, cx0q5100, cx1q5100, Ay0q5100, Ay1q5100, cy0q5100, cy1q5100, Az0q5100, Az1q5100, cz0q5100, cz1q5100, u2.heap.size, u3.heap.size, u4.heap.size) _ ⟨hT.out, hlo_, hhi_, hbq, hne_, hq, Oz0, Oz1⟩
      simp only [putAll, Act.put, List.setIfInBounds_toArray, List.set_cons_zero, List.set_cons_succ] at hF_
      exact hF_
    ·-- the box now
     refine value_ (by rfl) rfl (v := .pointer (some ⟨u1.heap.size, 0, none⟩)) (w1 := u1.alloc (.cells #[.slice none 0 0, .slice none 0 0] 27)) ?_ ?_
     ·first | (go_simp; done) | (go_simp; rfl)
     obtain ⟨u2, hw_⟩ : ∃ W_ : World, W_ = u1.alloc (.cells #[.slice none 0 0, .slice none 0 0] 27) := ⟨_, rfl⟩
     rw [← hw_]
     have hb : Below u1.heap.size u1 u2 := by rw [hw_]; exact below_alloc (Below.refl _ _) _
     have hq : u2.heap[u1.heap.size]? = some (.cells #[.slice none 0 0, .slice none 0 0] 27 (0, 0)) := by rw [hw_]; exact heap_alloc_new _ _
     have hbq : W3.heap.size ≤ u1.heap.size := hT.out.size
     have hbl : u1.heap.size < u2.heap.size := by rw [hw_]; simp
     clear hw_
     replace Ox0 := Ox0.below hb
     replace Ox1 := Ox1.below hb
     replace hT : Aside0 (Below W3.heap.size W3 _) := ⟨below_on hT.out hT.out.size hb⟩
     clear hb
     refine hK.out _ _ ⟨pw_cell_below hT.out hcaA_0, pw_cell_below hT.out hcaA_1, pw_cell_below hT.out hcaB_0, pw_cell_below hT.out hcaB_1⟩ (fun hHeld => ?_)
     clear hK K
     refine norm_ (a' := ?_) ?_ ?_
     rotate_left
     ·show Act.put _ (some 6) _ = _
      simp only [Act.put, List.setIfInBounds_toArray, List.set_cons_zero, List.set_cons_succ, i64_w, i32_w]
      rfl
     refine one_ (i := 3) (N := some 31) #[true, true, true, true, false, false, false, false, true, false, false] rfl rfl (by kernel_rfl) (by decide) (fun K hK => ?_)
     refine goes_ Try.func17 (by kernel_rfl) rfl #[.agg #[.slice A1_0 l1_0.length c1_0, .slice A1_1 l1_1.length c1_1]] (by rfl) rfl rfl (by (try simp only [List.map_toArray, List.map_cons, List.map_nil]); first | done | rfl | (simp only [List.length_drop, List.length_take]; rfl)) ?_
     obtain ⟨kk, e_⟩ := E6.out
     replace e_ := Aside0.mk e_
     refine (laws_toStripe.calls kk _ _ l1_0 _ _ l1_1 t_aB_0 t_aB_1 u2 (Kd.C_below HR1_0.out (below_on HB.out HB.out.size hT.out)) HC1_0.out (Kd.C_below HR1_1.out (below_on HB.out HB.out.size hT.out)) HC1_1.out e_.out).mono ?_
     rintro e u3 ⟨vy0, vy1, rfl, hy0, hy1, hb⟩
     refine ⟨_, rfl, ?_⟩
     clear e_
     have Oy0 := OwnR.new (b := w.heap.size) hy0 (below_on HB.out HB.out.size hT.out).size
     have Oy1 := OwnR.new (b := w.heap.size) hy1 (below_on HB.out HB.out.size hT.out).size
     clear hy0 hy1
     replace Ox0 := Ox0.below hb
     replace Ox1 := Ox1.below hb
     replace hq := blk_below hq hb
     replace hT : Aside0 (Below W3.heap.size W3 _) := ⟨below_on hT.out hT.out.size hb⟩
     replace hbl : u1.heap.size < u3.heap.size := Nat.lt_of_lt_of_le hbl hb.size
     clear hb
     obtain ⟨Ay0q5100, cy0q5100, rfl⟩ := Oy0.slice
     obtain ⟨Ay1q5100, cy1q5100, rfl⟩ := Oy1.slice
     refine hK.out _ _ ⟨pw_cell_below hT.out hcaA_0, pw_cell_below hT.out hcaA_1, pw_cell_below hT.out hcaB_0, pw_cell_below hT.out hcaB_1⟩ (fun hHeld => ?_)
     clear hK K
     refine norm_ (a' := ?_) ?_ ?_
     rotate_left
     ·show Act.put _ (some 31) _ = _
      simp only [Act.put, List.setIfInBounds_toArray, List.set_cons_zero, List.set_cons_succ, i64_w, i32_w]
      rfl
     refine one_ (i := 4) (N := some 32) #[true, true, true, true, true, false, false, false, true, false, false] rfl rfl (by kernel_rfl) (by decide) (fun K hK => ?_)
     have hlo0 : W3.heap.size ≤ u3.heap.size := hT.out.size
     refine goes_ Try.func31 (by kernel_rfl) rfl #[.agg #[.slice Ax0q5100 t_aA_0.length cx0q5100, .slice Ax1q5100 t_aA_1.length cx1q5100], .agg #[.slice Ay0q5100 t_aB_0.length cy0q5100, .slice Ay1q5100 t_aB_1.length cy1q5100]] (by rfl) rfl rfl (by (try simp only [List.map_toArray, List.map_cons, List.map_nil]); first | done | rfl | (simp only [List.length_drop, List.length_take]; rfl)) ?_
     obtain ⟨kk, e_⟩ := E7.out
     replace e_ := Aside0.mk e_
     refine (spec_MergeStripes.calls kk _ _ t_aA_0 _ _ t_aA_1 _ _ t_aB_0 _ _ t_aB_1 r_0 r_1 r_2 u3 Ox0.C Ox0.cap Ox1.C Ox1.cap Oy0.C Oy0.cap Oy1.C Oy1.cap e_.out).mono ?_
     rintro e u4 ⟨vz0, vz1, rfl, hz0, hz1, hb⟩
     refine ⟨_, rfl, ?_⟩
     clear e_
     have Oz0 := OwnR.new (b := w.heap.size) hz0 (below_on HB.out HB.out.size hT.out).size
     have Oz1 := OwnR.new (b := w.heap.size) hz1 (below_on HB.out HB.out.size hT.out).size
     clear hz0 hz1
     replace Ox0 := Ox0.below hb
     replace Ox1 := Ox1.below hb
     replace Oy0 := Oy0.below hb
     replace Oy1 := Oy1.below hb
     replace hq := blk_below hq hb
     replace hT : Aside0 (Below W3.heap.size W3 _) := ⟨below_on hT.out hT.out.size hb⟩
     have hz_ := hb.size
     have hbl2 : u1.heap.size < u4.heap.size := Nat.lt_of_lt_of_le hbl hb.size
     obtain ⟨Az0q5100, cz0q5100, rfl⟩ := Oz0.slice
     obtain ⟨Az1q5100, cz1q5100, rfl⟩ := Oz1.slice
     refine hK.out _ _ ⟨pw_cell_below hT.out hcaA_0, pw_cell_below hT.out hcaA_1, pw_cell_below hT.out hcaB_0, pw_cell_below hT.out hcaB_1⟩ (fun hHeld => ?_)
     clear hK K
     refine norm_ (a' := ?_) ?_ ?_
     rotate_left
     ·show Act.put _ (some 32) _ = _
      simp only [Act.put, List.setIfInBounds_toArray, List.set_cons_zero, List.set_cons_succ, i64_w, i32_w]
      rfl
     refine pure_ (i := 5) (N := some 27) (v := ?_) (a' := ?_) #[true, true, true, true, true, true, false, false, true, false, false] rfl rfl (by kernel_rfl) (fun _ _ _ h => h) (Or.inl ⟨by rfl, ?_⟩) ?_ ?_
     rotate_left
     ·intro w'
      go_simp
      with_reducible rfl
     rotate_left
     ·simp only [Act.put, List.setIfInBounds_toArray, List.set_cons_zero, List.set_cons_succ, i64_w, i32_w]
      rfl
     refine pure_ (i := 6) (N := some 33) (v := ?_) (a' := ?_) #[true, true, true, true, true, true, true, false, true, false, false] rfl rfl (by kernel_rfl) (fun _ _ _ h => h) (Or.inl ⟨by rfl, ?_⟩) ?_ ?_
     rotate_left
     ·intro w'
      go_simp
      with_reducible rfl
     rotate_left
     ·simp only [Act.put, List.setIfInBounds_toArray, List.set_cons_zero, List.set_cons_succ, i64_w, i32_w]
      rfl
     refine pure_ (i := 7) (N := some 34) (v := ?_) (a' := ?_) #[true, true, true, true, true, true, true, true, true, false, false] rfl rfl (by kernel_rfl) (fun _ _ _ h => h) (Or.inl ⟨by rfl, ?_⟩) ?_ ?_
     rotate_left
     ·intro w'
      go_simp
      with_reducible rfl
     rotate_left
     ·simp only [Act.put, List.setIfInBounds_toArray, List.set_cons_zero, List.set_cons_succ, i64_w, i32_w]
      rfl
     have hlo_ : W3.heap.size ≤ u3.heap.size := by omega
     have hhi_ : u4.heap.size ≤ u4.heap.size := by omega
     have hne_ : ¬ (u3.heap.size ≤ u1.heap.size ∧ u1.heap.size < u4.heap.size) := by omega
     have hF_ := hCont (Ax0q5100, Ax1q5100, cx0q5100, cx1q5100, Ay0q5100, Ay1q5100, cy0q5100, cy1q5100, Az0q5100, Az1q5100, cz0q5100, cz1q5100, u1.heap.size, u3.heap.size, u4.heap.size) _ ⟨hT.out, hlo_, hhi_, hbq, hne_, hq, Oz0, Oz1⟩
     simp only [putAll, Act.put, List.setIfInBounds_toArray, List.set_cons_zero, List.set_cons_succ] at hF_
     exact hF_
   ·-- the box now
    refine value_ (by rfl) rfl (v := .pointer (some ⟨W3.heap.size, 0, none⟩)) (w1 := W3.alloc (.cells #[.slice none 0 0, .slice none 0 0] 27)) ?_ ?_
    ·first | (go_simp; done) | (go_simp; rfl)
    obtain ⟨u1, hw_⟩ : ∃ W_ : World, W_ = W3.alloc (.cells #[.slice none 0 0, .slice none 0 0] 27) := ⟨_, rfl⟩
    rw [← hw_]
    have hb : Below W3.heap.size W3 u1 := by rw [hw_]; exact below_alloc (Below.refl _ _) _
    have hq : u1.heap[W3.heap.size]? = some (.cells #[.slice none 0 0, .slice none 0 0] 27 (0, 0)) := by rw [hw_]; exact heap_alloc_new _ _
    have hbq : W3.heap.size ≤ W3.heap.size := hT.out.size
    have hbl : W3.heap.size < u1.heap.size := by rw [hw_]; simp
    clear hw_
    replace hT : Aside0 (Below W3.heap.size W3 _) := ⟨below_on hT.out hT.out.size hb⟩
    clear hb
    refine hK.out _ _ ⟨pw_cell_below hT.out hcaA_0, pw_cell_below hT.out hcaA_1, pw_cell_below hT.out hcaB_0, pw_cell_below hT.out hcaB_1⟩ (fun hHeld => ?_)
    clear hK K
    refine norm_ (a' := ?_) ?_ ?_
    rotate_left
    ·show Act.put _ (some 6) _ = _
     simp only [Act.put, List.setIfInBounds_toArray, List.set_cons_zero, List.set_cons_succ, i64_w, i32_w]
     rfl
    refine one_ (i := 1) (N := some 29) #[true, true, true, false, false, false, false, false, true, false, false] rfl rfl (by kernel_rfl) (by decide) (fun K hK => ?_)
    refine goes_ Try.func17 (by kernel_rfl) rfl #[.agg #[.slice A0_0 l0_0.length c0_0, .slice A0_1 l0_1.length c0_1]] (by rfl) rfl rfl (by (try simp only [List.map_toArray, List.map_cons, List.map_nil]); first | done | rfl | (simp only [List.length_drop, List.length_take]; rfl)) ?_
    obtain ⟨kk, e_⟩ := E5.out
    replace e_ := Aside0.mk e_
    refine (laws_toStripe.calls kk _ _ l0_0 _ _ l0_1 t_aA_0 t_aA_1 u1 (Kd.C_below HR0_0.out (below_on HB.out HB.out.size hT.out)) HC0_0.out (Kd.C_below HR0_1.out (below_on HB.out HB.out.size hT.out)) HC0_1.out e_.out).mono ?_
    rintro e u2 ⟨vx0, vx1, rfl, hx0, hx1, hb⟩
    refine ⟨_, rfl, ?_⟩
    clear e_
    have Ox0 := OwnR.new (b := w.heap.size) hx0 (below_on HB.out HB.out.size hT.out).size
    have Ox1 := OwnR.new (b := w.heap.size) hx1 (below_on HB.out HB.out.size hT.out).size
    clear hx0 hx1
    replace hq := blk_below hq hb
    replace hT : Aside0 (Below W3.heap.size W3 _) := ⟨below_on hT.out hT.out.size hb⟩
    replace hbl : W3.heap.size < u2.heap.size := Nat.lt_of_lt_of_le hbl hb.size
    clear hb
    obtain ⟨Ax0q5100, cx0q5100, rfl⟩ := Ox0.slice
    obtain ⟨Ax1q5100, cx1q5100, rfl⟩ := Ox1.slice
    refine hK.out _ _ ⟨pw_cell_below hT.out hcaA_0, pw_cell_below hT.out hcaA_1, pw_cell_below hT.out hcaB_0, pw_cell_below hT.out hcaB_1⟩ (fun hHeld => ?_)
    clear hK K
    refine norm_ (a' := ?_) ?_ ?_
    rotate_left
    ·show Act.put _ (some 29) _ = _
     simp only [Act.put, List.setIfInBounds_toArray, List.set_cons_zero, List.set_cons_succ, i64_w, i32_w]
     rfl
    refine one_ (i := 3) (N := some 31) #[true, true, true, true, false, false, false, false, true, false, false] rfl rfl (by kernel_rfl) (by decide) (fun K hK => ?_)
    refine goes_ Try.func17 (by kernel_rfl) rfl #[.agg #[.slice A1_0 l1_0.length c1_0, .slice A1_1 l1_1.length c1_1]] (by rfl) rfl rfl (by (try simp only [List.map_toArray, List.map_cons, List.map_nil]); first | done | rfl | (simp only [List.length_drop, List.length_take]; rfl)) ?_
    obtain ⟨kk, e_⟩ := E6.out
    replace e_ := Aside0.mk e_
    refine (laws_toStripe.calls kk _ _ l1_0 _ _ l1_1 t_aB_0 t_aB_1 u2 (Kd.C_below HR1_0.out (below_on HB.out HB.out.size hT.out)) HC1_0.out (Kd.C_below HR1_1.out (below_on HB.out HB.out.size hT.out)) HC1_1.out e_.out).mono ?_
    rintro e u3 ⟨vy0, vy1, rfl, hy0, hy1, hb⟩
    refine ⟨_, rfl, ?_⟩
    clear e_
    have Oy0 := OwnR.new (b := w.heap.size) hy0 (below_on HB.out HB.out.size hT.out).size
    have Oy1 := OwnR.new (b := w.heap.size) hy1 (below_on HB.out HB.out.size hT.out).size
    clear hy0 hy1
    replace Ox0 := Ox0.below hb
    replace Ox1 := Ox1.below hb
    replace hq := blk_below hq hb
    replace hT : Aside0 (Below W3.heap.size W3 _) := ⟨below_on hT.out hT.out.size hb⟩
    replace hbl : W3.heap.size < u3.heap.size := Nat.lt_of_lt_of_le hbl hb.size
    clear hb
    obtain ⟨Ay0q5100, cy0q5100, rfl⟩ := Oy0.slice
    obtain ⟨Ay1q5100, cy1q5100, rfl⟩ := Oy1.slice
    refine hK.out _ _ ⟨pw_cell_below hT.out hcaA_0, pw_cell_below hT.out hcaA_1, pw_cell_below hT.out hcaB_0, pw_cell_below hT.out hcaB_1⟩ (fun hHeld => ?_)
    clear hK K
    refine norm_ (a' := ?_) ?_ ?_
    rotate_left
    ·show Act.put _ (some 31) _ = _
     simp only [Act.put, List.setIfInBounds_toArray, List.set_cons_zero, List.set_cons_succ, i64_w, i32_w]
     rfl
    refine one_ (i := 4) (N := some 32) #[true, true, true, true, true, false, false, false, true, false, false] rfl rfl (by kernel_rfl) (by decide) (fun K hK => ?_)
    have hlo0 : W3.heap.size ≤ u3.heap.size := hT.out.size
    refine goes_ Try.func31 (by kernel_rfl) rfl #[.agg #[.slice Ax0q5100 t_aA_0.length cx0q5100, .slice Ax1q5100 t_aA_1.length cx1q5100], .agg #[.slice Ay0q5100 t_aB_0.length cy0q5100, .slice Ay1q5100 t_aB_1.length cy1q5100]] (by rfl) rfl rfl (by (try simp only [List.map_toArray, List.map_cons, List.map_nil]); first | done | rfl | (simp only [List.length_drop, List.length_take]; rfl)) ?_
    obtain ⟨kk, e_⟩ := E7.out
    replace e_ := Aside0.mk e_
    refine (spec_MergeStripes.calls kk _ _ t_aA_0 _ _ t_aA_1 _ _ t_aB_0 _ _ t_aB_1 r_0 r_1 r_2 u3 Ox0.C Ox0.cap Ox1.C Ox1.cap Oy0.C Oy0.cap Oy1.C Oy1.cap e_.out).mono ?_
    rintro e u4 ⟨vz0, vz1, rfl, hz0, hz1, hb⟩
    refine ⟨_, rfl, ?_⟩
    clear e_
    have Oz0 := OwnR.new (b := w.heap.size) hz0 (below_on HB.out HB.out.size hT.out).size
    have Oz1 := OwnR.new (b := w.heap.size) hz1 (below_on HB.out HB.out.size hT.out).size
    clear hz0 hz1
    replace Ox0 := Ox0.below hb
    replace Ox1 := Ox1.below hb
    replace Oy0 := Oy0.below hb
    replace Oy1 := Oy1.below hb
    replace hq := blk_below hq hb
    replace hT : Aside0 (Below W3.heap.size W3 _) := ⟨below_on hT.out hT.out.size hb⟩
    have hz_ := hb.size
    have hbl2 : W3.heap.size < u4.heap.size := Nat.lt_of_lt_of_le hbl hb.size
    obtain ⟨Az0q5100, cz0q5100, rfl⟩ := Oz0.slice
    obtain ⟨Az1q5100, cz1q5100, rfl⟩ := Oz1.slice
    refine hK.out _ _ ⟨pw_cell_below hT.out hcaA_0, pw_cell_below hT.out hcaA_1, pw_cell_below hT.out hcaB_0, pw_cell_below hT.out hcaB_1⟩ (fun hHeld => ?_)
    clear hK K
    refine norm_ (a' := ?_) ?_ ?_
    rotate_left
    ·show Act.put _ (some 32) _ = _
     simp only [Act.put, List.setIfInBounds_toArray, List.set_cons_zero, List.set_cons_succ, i64_w, i32_w]
     rfl
    refine pure_ (i := 5) (N := some 27) (v := ?_) (a' := ?_) #[true, true, true, true, true, true, false, false, true, false, false] rfl rfl (by kernel_rfl) (fun _ _ _ h => h) (Or.inl ⟨by rfl, ?_⟩) ?_ ?_
    rotate_left
    ·intro w'
     go_simp
     with_reducible rfl
    rotate_left
    ·simp only [Act.put, List.setIfInBounds_toArray, List.set_cons_zero, List.set_cons_succ, i64_w, i32_w]
     rfl
    refine pure_ (i := 6) (N := some 33) (v := ?_) (a' := ?_) #[true, true, true, true, true, true, true, false, true, false, false] rfl rfl (by kernel_rfl) (fun _ _ _ h => h) (Or.inl ⟨by rfl, ?_⟩) ?_ ?_
    rotate_left
    ·intro w'
     go_simp
     with_reducible rfl
    rotate_left
    ·simp only [Act.put, List.setIfInBounds_toArray, List.set_cons_zero, List.set_cons_succ, i64_w, i32_w]
     rfl
    refine pure_ (i := 7) (N := some 34) (v := ?_) (a' := ?_) #[true, true, true, true, true, true, true, true, true, false, false] rfl rfl (by kernel_rfl) (fun _ _ _ h => h) (Or.inl ⟨by rfl, ?_⟩) ?_ ?_
    rotate_left
    ·intro w'
     go_simp
     with_reducible rfl
    rotate_left
    ·simp only [Act.put, List.setIfInBounds_toArray, List.set_cons_zero, List.set_cons_succ, i64_w, i32_w]
     rfl
    have hlo_ : W3.heap.size ≤ u3.heap.size := by omega
    have hhi_ : u4.heap.size ≤ u4.heap.size := by omega
    have hne_ : ¬ (u3.heap.size ≤ W3.heap.size ∧ W3.heap.size < u4.heap.size) := by omega
    have hF_ := hCont (Ax0q5100, Ax1q5100, cx0q5100, cx1q5100, Ay0q5100, Ay1q5100, cy0q5100, cy1q5100, Az0q5100, Az1q5100, cz0q5100, cz1q5100, W3.heap.size, u3.heap.size, u4.heap.size) _ ⟨hT.out, hlo_, hhi_, hbq, hne_, hq, Oz0, Oz1⟩
    simp only [putAll, Act.put, List.setIfInBounds_toArray, List.set_cons_zero, List.set_cons_succ] at hF_
    exact hF_
  rintro ⟨Ax0q5100, Ax1q5100, cx0q5100, cx1q5100, Ay0q5100, Ay1q5100, cy0q5100, cy1q5100, Az0q5100, Az1q5100, cz0q5100, cz1q5100, bqq5100, loq5100, hiq5100⟩ w3 ⟨hT, hlo_, hhi_, hgeb, hnb, hq, HO3_0, HO3_1⟩
  simp only [putAll, Act.put, List.setIfInBounds_toArray, List.set_cons_zero, List.set_cons_succ]
  have hbl := blk_lt hq
  have hTs := hT.size
  have zlo3 := Aside0.mk hlo_
  have zhi3 := Aside0.mk hhi_
  have zge3 := Aside0.mk hgeb
  have znb3 := Aside0.mk hnb
  have zbl3 := Aside0.mk hbl
  have zT3 := Aside0.mk hTs
  have hx_0 : w3.cell? ⟨bqq5100, 0, none⟩ = some (.slice none 0 0) := (blk_cell hq 0).trans rfl
  have hy_0 := blk_frozen hq 0
  have hx_1 : w3.cell? ⟨bqq5100, 1, none⟩ = some (.slice none 0 0) := (blk_cell hq 1).trans rfl
  have hy_1 := blk_frozen hq 1
  refine last_ (i := 9) (N := none) #[true, true, true, true, true, true, true, true, true, true, false] rfl rfl (by kernel_rfl) (by decide) (fun K hK => ?_)
  refine skip_ (w1 := ?_) (by rfl) rfl ?_ ?_
  rotate_left
  ·go_simp
   rfl
  refine hK.out _ _ ?_
  clear hK K
  refine pure_ (i := 10) (N := some 7) (v := ?_) (a' := ?_) #[true, true, true, true, true, true, true, true, true, true, true] rfl rfl (by kernel_rfl) (fun _ _ _ h => h) (Or.inl ⟨by rfl, ?_⟩) ?_ ?_
  rotate_left
  ·intro w'
   go_simp
   with_reducible rfl
  rotate_left
  ·simp only [Act.put, List.setIfInBounds_toArray, List.set_cons_zero, List.set_cons_succ, i64_w, i32_w]
   rfl
  refine done_ (by kernel_rfl) ?_
  obtain ⟨W4, hW⟩ : ∃ W_ : World, W_ = (w3.setCell ⟨bqq5100, 0, none⟩ (.slice Az0q5100 r_0.length cz0q5100)).setCell ⟨bqq5100, 1, none⟩ (.slice Az1q5100 r_1.length cz1q5100) := ⟨_, rfl⟩
  rw [← hW]
  have hs : Below W3.heap.size W3 W4 := by rw [hW]; repeat (first | exact hT | refine below_set ?_ hgeb)
  have hcw0_0 : W4.cell? ⟨bqq5100, 0, none⟩ = some (.slice Az0q5100 r_0.length cz0q5100) := by rw [hW]; go_simp
  have hcw0_1 : W4.cell? ⟨bqq5100, 1, none⟩ = some (.slice Az1q5100 r_1.length cz1q5100) := by rw [hW]; go_simp
  have hlw0 : bqq5100 < W4.heap.size := by rw [hW]; simp <;> omega
  have zlw0 := Aside0.mk hlw0
  replace HO3_0 : OwnR Kd.string 9 w.heap.size loq5100 hiq5100 W4 (.slice Az0q5100 r_0.length cz0q5100) r_0 := by rw [hW]; repeat (first | exact HO3_0 | refine OwnR.far ?_ hnb _)
  replace HO3_1 : OwnR Kd.string 9 w.heap.size loq5100 hiq5100 W4 (.slice Az1q5100 r_1.length cz1q5100) r_1 := by rw [hW]; repeat (first | exact HO3_1 | refine OwnR.far ?_ hnb _)
  have zhz4 : Aside0 (w3.heap.size ≤ W4.heap.size) := ⟨by rw [hW]; simp <;> omega⟩
  clear hW hq hx_0 hy_0 hx_1 hy_1
  replace hcaA_0 := pw_cell_below hs hcaA_0
  replace hcaA_1 := pw_cell_below hs hcaA_1
  replace hcaB_0 := pw_cell_below hs hcaB_0
  replace hcaB_1 := pw_cell_below hs hcaB_1
  replace hlaA : w.heap.size < W4.heap.size := Nat.lt_of_lt_of_le hlaA hs.size
  replace hlaB : w.heap.size + 1 < W4.heap.size := Nat.lt_of_lt_of_le hlaB hs.size
  replace HB := Aside0.mk (below_on HB.out HB.out.size hs)
  have zs4 := Aside0.mk hs.size
  clear hs hT hTs hlo_ hhi_ hgeb hnb hbl
  go_wp2_with fail
  refine calls_named fun W5 hW => ?_
  have hs : Below W4.heap.size W4 W5 := by rw [hW]; repeat (first | exact Below.refl _ _ | apply below_alloc | apply below_drew1 | apply pw_below_drewN)
  clear hW
  replace hcaA_0 := pw_cell_below hs hcaA_0
  replace hcaA_1 := pw_cell_below hs hcaA_1
  replace hcaB_0 := pw_cell_below hs hcaB_0
  replace hcaB_1 := pw_cell_below hs hcaB_1
  replace hcw0_0 := pw_cell_below hs hcw0_0
  replace hcw0_1 := pw_cell_below hs hcw0_1
  replace HO3_0 := HO3_0.below hs
  replace HO3_1 := HO3_1.below hs
  replace hlaA : w.heap.size < W5.heap.size := Nat.lt_of_lt_of_le hlaA hs.size
  replace hlaB : w.heap.size + 1 < W5.heap.size := Nat.lt_of_lt_of_le hlaB hs.size
  replace hlw0 : bqq5100 < W5.heap.size := Nat.lt_of_lt_of_le hlw0 hs.size
  replace HB := Aside0.mk (below_on HB.out HB.out.size hs)
  have zs5 := Aside0.mk hs.size
  clear hs
  obtain ⟨kk5, e_5⟩ := E5.out
  replace e_5 := Aside0.mk e_5
  refine (laws_toStripe.calls kk5 _ _ l0_0 _ _ l0_1 t_aA_0 t_aA_1 W5 (Kd.C_below HR0_0.out HB.out) HC0_0.out (Kd.C_below HR0_1.out HB.out) HC0_1.out e_5.out).mono ?_
  rintro e w5 ⟨v5_0, v5_1, rfl, h5_0, h5_1, hb⟩
  clear e_5
  have HO5_0 := OwnR.new (b := w.heap.size) h5_0 HB.out.size
  have HO5_1 := OwnR.new (b := w.heap.size) h5_1 HB.out.size
  have HD5_0 : Aside0 (∀ k_, some k_ = (v5_0 : Value).ownBlock → ¬ some k_ = (v5_1 : Value).ownBlock) := ⟨fun k_ h_ => by have q_ := h5_0.1 k_ h_.symm; first | exact q_ | exact q_.1⟩
  clear h5_0
  clear h5_1
  have zc5 := Aside0.mk hb.size
  replace hcaA_0 := pw_cell_below hb hcaA_0
  replace hcaA_1 := pw_cell_below hb hcaA_1
  replace hcaB_0 := pw_cell_below hb hcaB_0
  replace hcaB_1 := pw_cell_below hb hcaB_1
  replace hcw0_0 := pw_cell_below hb hcw0_0
  replace hcw0_1 := pw_cell_below hb hcw0_1
  replace HO3_0 := HO3_0.below hb
  replace HO3_1 := HO3_1.below hb
  replace hlaA : w.heap.size < w5.heap.size := Nat.lt_of_lt_of_le hlaA hb.size
  replace hlaB : w.heap.size + 1 < w5.heap.size := Nat.lt_of_lt_of_le hlaB hb.size
  replace hlw0 : bqq5100 < w5.heap.size := Nat.lt_of_lt_of_le hlw0 hb.size
  replace HB := Aside0.mk (below_on HB.out HB.out.size hb)
  clear hb
  obtain ⟨A5_0, c5_0, rfl⟩ := HO5_0.slice
  obtain ⟨A5_1, c5_1, rfl⟩ := HO5_1.slice
  go_wp2_with fail
  refine calls_named fun W6 hW => ?_
  have hs : Below w5.heap.size w5 W6 := by rw [hW]; repeat (first | exact Below.refl _ _ | apply below_alloc | apply below_drew1 | apply pw_below_drewN)
  have hcx0_0 : W6.cell? ⟨w5.heap.size, 0, none⟩ = some (.slice A5_0 t_aA_0.length c5_0) := by rw [hW]; go_simp
  have hcx0_1 : W6.cell? ⟨w5.heap.size, 1, none⟩ = some (.slice A5_1 t_aA_1.length c5_1) := by rw [hW]; go_simp
  have hlx0 : w5.heap.size < W6.heap.size := by rw [hW]; simp <;> omega
  have zlx0 := Aside0.mk hlx0
  clear hW
  replace hcaA_0 := pw_cell_below hs hcaA_0
  replace hcaA_1 := pw_cell_below hs hcaA_1
  replace hcaB_0 := pw_cell_below hs hcaB_0
  replace hcaB_1 := pw_cell_below hs hcaB_1
  replace hcw0_0 := pw_cell_below hs hcw0_0
  replace hcw0_1 := pw_cell_below hs hcw0_1
  replace HO3_0 := HO3_0.below hs
  replace HO3_1 := HO3_1.below hs
  replace HO5_0 := HO5_0.below hs
  replace HO5_1 := HO5_1.below hs
  replace hlaA : w.heap.size < W6.heap.size := Nat.lt_of_lt_of_le hlaA hs.size
  replace hlaB : w.heap.size + 1 < W6.heap.size := Nat.lt_of_lt_of_le hlaB hs.size
  replace hlw0 : bqq5100 < W6.heap.size := Nat.lt_of_lt_of_le hlw0 hs.size
  replace HB := Aside0.mk (below_on HB.out HB.out.size hs)
  have zs6 := Aside0.mk hs.size
  clear hs
  obtain ⟨kk6, e_6⟩ := E6.out
  replace e_6 := Aside0.mk e_6
  refine (laws_toStripe.calls kk6 _ _ l1_0 _ _ l1_1 t_aB_0 t_aB_1 W6 (Kd.C_below HR1_0.out HB.out) HC1_0.out (Kd.C_below HR1_1.out HB.out) HC1_1.out e_6.out).mono ?_
  rintro e w6 ⟨v6_0, v6_1, rfl, h6_0, h6_1, hb⟩
  clear e_6
  have HO6_0 := OwnR.new (b := w.heap.size) h6_0 HB.out.size
  have HO6_1 := OwnR.new (b := w.heap.size) h6_1 HB.out.size
  have HD6_0 : Aside0 (∀ k_, some k_ = (v6_0 : Value).ownBlock → ¬ some k_ = (v6_1 : Value).ownBlock) := ⟨fun k_ h_ => by have q_ := h6_0.1 k_ h_.symm; first | exact q_ | exact q_.1⟩
  clear h6_0
  clear h6_1
  have zc6 := Aside0.mk hb.size
  replace hcaA_0 := pw_cell_below hb hcaA_0
  replace hcaA_1 := pw_cell_below hb hcaA_1
  replace hcaB_0 := pw_cell_below hb hcaB_0
  replace hcaB_1 := pw_cell_below hb hcaB_1
  replace hcw0_0 := pw_cell_below hb hcw0_0
  replace hcw0_1 := pw_cell_below hb hcw0_1
  replace hcx0_0 := pw_cell_below hb hcx0_0
  replace hcx0_1 := pw_cell_below hb hcx0_1
  replace HO3_0 := HO3_0.below hb
  replace HO3_1 := HO3_1.below hb
  replace HO5_0 := HO5_0.below hb
  replace HO5_1 := HO5_1.below hb
  replace hlaA : w.heap.size < w6.heap.size := Nat.lt_of_lt_of_le hlaA hb.size
  replace hlaB : w.heap.size + 1 < w6.heap.size := Nat.lt_of_lt_of_le hlaB hb.size
  replace hlw0 : bqq5100 < w6.heap.size := Nat.lt_of_lt_of_le hlw0 hb.size
  replace hlx0 : w5.heap.size < w6.heap.size := Nat.lt_of_lt_of_le hlx0 hb.size
  replace HB := Aside0.mk (below_on HB.out HB.out.size hb)
  clear hb
  obtain ⟨A6_0, c6_0, rfl⟩ := HO6_0.slice
  obtain ⟨A6_1, c6_1, rfl⟩ := HO6_1.slice
  go_wp2_with fail
  refine calls_named fun W7 hW => ?_
  have hs : Below w6.heap.size w6 W7 := by rw [hW]; repeat (first | exact Below.refl _ _ | apply below_alloc | apply below_drew1 | apply pw_below_drewN)
  have hcx1_0 : W7.cell? ⟨w6.heap.size, 0, none⟩ = some (.slice A6_0 t_aB_0.length c6_0) := by rw [hW]; go_simp
  have hcx1_1 : W7.cell? ⟨w6.heap.size, 1, none⟩ = some (.slice A6_1 t_aB_1.length c6_1) := by rw [hW]; go_simp
  have hlx1 : w6.heap.size < W7.heap.size := by rw [hW]; simp <;> omega
  have zlx1 := Aside0.mk hlx1
  clear hW
  replace hcaA_0 := pw_cell_below hs hcaA_0
  replace hcaA_1 := pw_cell_below hs hcaA_1
  replace hcaB_0 := pw_cell_below hs hcaB_0
  replace hcaB_1 := pw_cell_below hs hcaB_1
  replace hcw0_0 := pw_cell_below hs hcw0_0
  replace hcw0_1 := pw_cell_below hs hcw0_1
  replace hcx0_0 := pw_cell_below hs hcx0_0
  replace hcx0_1 := pw_cell_below hs hcx0_1
  replace HO3_0 := HO3_0.below hs
  replace HO3_1 := HO3_1.below hs
  replace HO5_0 := HO5_0.below hs
  replace HO5_1 := HO5_1.below hs
  replace HO6_0 := HO6_0.below hs
  replace HO6_1 := HO6_1.below hs
  replace hlaA : w.heap.size < W7.heap.size := Nat.lt_of_lt_of_le hlaA hs.size
  replace hlaB : w.heap.size + 1 < W7.heap.size := Nat.lt_of_lt_of_le hlaB hs.size
  replace hlw0 : bqq5100 < W7.heap.size := Nat.lt_of_lt_of_le hlw0 hs.size
  replace hlx0 : w5.heap.size < W7.heap.size := Nat.lt_of_lt_of_le hlx0 hs.size
  replace HB := Aside0.mk (below_on HB.out HB.out.size hs)
  have zs7 := Aside0.mk hs.size
  clear hs
  obtain ⟨kk7, e_7⟩ := E8.out
  replace e_7 := Aside0.mk e_7
  refine (impl_MergeStripes.calls kk7 _ _ t_aA_0 _ _ t_aA_1 _ _ t_aB_0 _ _ t_aB_1 r_0 r_1 r_2 W7 HO5_0.C HO5_0.cap HO5_1.C HO5_1.cap HO6_0.C HO6_0.cap HO6_1.C HO6_1.cap e_7.out).mono ?_
  rintro e w7 ⟨v7_0, v7_1, rfl, h7_0, h7_1, hb⟩
  clear e_7
  have HO7_0 := OwnR.new (b := w.heap.size) h7_0 HB.out.size
  have HO7_1 := OwnR.new (b := w.heap.size) h7_1 HB.out.size
  have HD7_0 : Aside0 (∀ k_, some k_ = (v7_0 : Value).ownBlock → ¬ some k_ = (v7_1 : Value).ownBlock) := ⟨fun k_ h_ => by have q_ := h7_0.1 k_ h_.symm; first | exact q_ | exact q_.1⟩
  clear h7_0
  clear h7_1
  have zc7 := Aside0.mk hb.size
  replace hcaA_0 := pw_cell_below hb hcaA_0
  replace hcaA_1 := pw_cell_below hb hcaA_1
  replace hcaB_0 := pw_cell_below hb hcaB_0
  replace hcaB_1 := pw_cell_below hb hcaB_1
  replace hcw0_0 := pw_cell_below hb hcw0_0
  replace hcw0_1 := pw_cell_below hb hcw0_1
  replace hcx0_0 := pw_cell_below hb hcx0_0
  replace hcx0_1 := pw_cell_below hb hcx0_1
  replace hcx1_0 := pw_cell_below hb hcx1_0
  replace hcx1_1 := pw_cell_below hb hcx1_1
  replace HO3_0 := HO3_0.below hb
  replace HO3_1 := HO3_1.below hb
  replace HO5_0 := HO5_0.below hb
  replace HO5_1 := HO5_1.below hb
  replace HO6_0 := HO6_0.below hb
  replace HO6_1 := HO6_1.below hb
  replace hlaA : w.heap.size < w7.heap.size := Nat.lt_of_lt_of_le hlaA hb.size
  replace hlaB : w.heap.size + 1 < w7.heap.size := Nat.lt_of_lt_of_le hlaB hb.size
  replace hlw0 : bqq5100 < w7.heap.size := Nat.lt_of_lt_of_le hlw0 hb.size
  replace hlx0 : w5.heap.size < w7.heap.size := Nat.lt_of_lt_of_le hlx0 hb.size
  replace hlx1 : w6.heap.size < w7.heap.size := Nat.lt_of_lt_of_le hlx1 hb.size
  replace HB := Aside0.mk (below_on HB.out HB.out.size hb)
  clear hb
  obtain ⟨A7_0, c7_0, rfl⟩ := HO7_0.slice
  obtain ⟨A7_1, c7_1, rfl⟩ := HO7_1.slice
  go_wp2_with fail
  refine calls_named fun W8 hW => ?_
  have hs : Below w7.heap.size w7 W8 := by rw [hW]; repeat (first | exact Below.refl _ _ | apply below_alloc | apply below_drew1 | apply pw_below_drewN)
  have hcg0_0 : W8.cell? ⟨w7.heap.size, 0, none⟩ = some (.slice A7_0 r_0.length c7_0) := by rw [hW]; go_simp
  have hcg0_1 : W8.cell? ⟨w7.heap.size, 1, none⟩ = some (.slice A7_1 r_1.length c7_1) := by rw [hW]; go_simp
  have hlg0 : w7.heap.size < W8.heap.size := by rw [hW]; simp <;> omega
  have zlg0 := Aside0.mk hlg0
  clear hW
  replace hcaA_0 := pw_cell_below hs hcaA_0
  replace hcaA_1 := pw_cell_below hs hcaA_1
  replace hcaB_0 := pw_cell_below hs hcaB_0
  replace hcaB_1 := pw_cell_below hs hcaB_1
  replace hcw0_0 := pw_cell_below hs hcw0_0
  replace hcw0_1 := pw_cell_below hs hcw0_1
  replace hcx0_0 := pw_cell_below hs hcx0_0
  replace hcx0_1 := pw_cell_below hs hcx0_1
  replace hcx1_0 := pw_cell_below hs hcx1_0
  replace hcx1_1 := pw_cell_below hs hcx1_1
  replace HO3_0 := HO3_0.below hs
  replace HO3_1 := HO3_1.below hs
  replace HO5_0 := HO5_0.below hs
  replace HO5_1 := HO5_1.below hs
  replace HO6_0 := HO6_0.below hs
  replace HO6_1 := HO6_1.below hs
  replace HO7_0 := HO7_0.below hs
  replace HO7_1 := HO7_1.below hs
  replace hlaA : w.heap.size < W8.heap.size := Nat.lt_of_lt_of_le hlaA hs.size
  replace hlaB : w.heap.size + 1 < W8.heap.size := Nat.lt_of_lt_of_le hlaB hs.size
  replace hlw0 : bqq5100 < W8.heap.size := Nat.lt_of_lt_of_le hlw0 hs.size
  replace hlx0 : w5.heap.size < W8.heap.size := Nat.lt_of_lt_of_le hlx0 hs.size
  replace hlx1 : w6.heap.size < W8.heap.size := Nat.lt_of_lt_of_le hlx1 hs.size
  replace HB := Aside0.mk (below_on HB.out HB.out.size hs)
  have zs8 := Aside0.mk hs.size
  clear hs
  obtain ⟨kk8, e_8⟩ := E9.out
  replace e_8 := Aside0.mk e_8
  refine (laws_eqStripe.calls kk8 _ _ r_0 _ _ r_1 _ _ r_0 _ _ r_1 true W8 HO7_0.C HO7_0.cap HO7_1.C HO7_1.cap HO3_0.C HO3_0.cap HO3_1.C HO3_1.cap e_8.out).mono ?_
  rintro e w8 ⟨rfl, hb⟩
  clear e_8
  have zc8 := Aside0.mk hb.size
  replace hcaA_0 := pw_cell_below hb hcaA_0
  replace hcaA_1 := pw_cell_below hb hcaA_1
  replace hcaB_0 := pw_cell_below hb hcaB_0
  replace hcaB_1 := pw_cell_below hb hcaB_1
  replace hcw0_0 := pw_cell_below hb hcw0_0
  replace hcw0_1 := pw_cell_below hb hcw0_1
  replace hcx0_0 := pw_cell_below hb hcx0_0
  replace hcx0_1 := pw_cell_below hb hcx0_1
  replace hcx1_0 := pw_cell_below hb hcx1_0
  replace hcx1_1 := pw_cell_below hb hcx1_1
  replace hcg0_0 := pw_cell_below hb hcg0_0
  replace hcg0_1 := pw_cell_below hb hcg0_1
  replace HO3_0 := HO3_0.below hb
  replace HO3_1 := HO3_1.below hb
  replace HO5_0 := HO5_0.below hb
  replace HO5_1 := HO5_1.below hb
  replace HO6_0 := HO6_0.below hb
  replace HO6_1 := HO6_1.below hb
  replace HO7_0 := HO7_0.below hb
  replace HO7_1 := HO7_1.below hb
  replace hlaA : w.heap.size < w8.heap.size := Nat.lt_of_lt_of_le hlaA hb.size
  replace hlaB : w.heap.size + 1 < w8.heap.size := Nat.lt_of_lt_of_le hlaB hb.size
  replace hlw0 : bqq5100 < w8.heap.size := Nat.lt_of_lt_of_le hlw0 hb.size
  replace hlx0 : w5.heap.size < w8.heap.size := Nat.lt_of_lt_of_le hlx0 hb.size
  replace hlx1 : w6.heap.size < w8.heap.size := Nat.lt_of_lt_of_le hlx1 hb.size
  replace hlg0 : w7.heap.size < w8.heap.size := Nat.lt_of_lt_of_le hlg0 hb.size
  replace HB := Aside0.mk (below_on HB.out HB.out.size hb)
  clear hb
  go_wp2_with fail
  have hd : Below w8.heap.size w8 w8.drew := below_drew1 (Below.refl _ _)
  refine start_ (n := 5) (S := fun w' => w'.cell? ⟨w5.heap.size, 0, none⟩ = some (.slice A5_0 t_aA_0.length c5_0) ∧ w'.cell? ⟨w5.heap.size, 1, none⟩ = some (.slice A5_1 t_aA_1.length c5_1) ∧ w'.cell? ⟨w.heap.size, 0, none⟩ = some (.slice A0_0 l0_0.length c0_0) ∧ w'.cell? ⟨w.heap.size, 1, none⟩ = some (.slice A0_1 l0_1.length c0_1)) (ds := []) #[false, false, false, false, false] (by kernel_rfl) rfl rfl ⟨pw_cell_below hd hcx0_0, pw_cell_below hd hcx0_1, pw_cell_below hd hcaA_0, pw_cell_below hd hcaA_1⟩ (fun hHeld => ?_)
  generalize w8.drew = W9 at hd hHeld ⊢
  have zs9 := Aside0.mk hd.size
  replace hcaA_0 := pw_cell_below hd hcaA_0
  replace hcaA_1 := pw_cell_below hd hcaA_1
  replace hcaB_0 := pw_cell_below hd hcaB_0
  replace hcaB_1 := pw_cell_below hd hcaB_1
  replace hcw0_0 := pw_cell_below hd hcw0_0
  replace hcw0_1 := pw_cell_below hd hcw0_1
  replace hcx0_0 := pw_cell_below hd hcx0_0
  replace hcx0_1 := pw_cell_below hd hcx0_1
  replace hcx1_0 := pw_cell_below hd hcx1_0
  replace hcx1_1 := pw_cell_below hd hcx1_1
  replace hcg0_0 := pw_cell_below hd hcg0_0
  replace hcg0_1 := pw_cell_below hd hcg0_1
  replace HO3_0 := HO3_0.below hd
  replace HO3_1 := HO3_1.below hd
  replace HO5_0 := HO5_0.below hd
  replace HO5_1 := HO5_1.below hd
  replace HO6_0 := HO6_0.below hd
  replace HO6_1 := HO6_1.below hd
  replace HO7_0 := HO7_0.below hd
  replace HO7_1 := HO7_1.below hd
  replace hlaA : w.heap.size < W9.heap.size := Nat.lt_of_lt_of_le hlaA hd.size
  replace hlaB : w.heap.size + 1 < W9.heap.size := Nat.lt_of_lt_of_le hlaB hd.size
  replace hlw0 : bqq5100 < W9.heap.size := Nat.lt_of_lt_of_le hlw0 hd.size
  replace hlx0 : w5.heap.size < W9.heap.size := Nat.lt_of_lt_of_le hlx0 hd.size
  replace hlx1 : w6.heap.size < W9.heap.size := Nat.lt_of_lt_of_le hlx1 hd.size
  replace hlg0 : w7.heap.size < W9.heap.size := Nat.lt_of_lt_of_le hlg0 hd.size
  replace HB := Aside0.mk (below_on HB.out HB.out.size hd)
  clear hd
  refine take_ (i := 0) (N := some 54) (v := ?_) (a' := ?_) #[true, false, false, false, false] rfl rfl (by kernel_rfl) (fun _ _ _ h => h) (Or.inl ⟨by rfl, ?_⟩) hHeld ?_ ?_
  rotate_left
  ·rintro w' ⟨s0, s1, s2, s3⟩
   go_simp
   with_reducible rfl
  rotate_left
  ·simp only [Act.put, List.setIfInBounds_toArray, List.set_cons_zero, List.set_cons_succ, i64_w, i32_w]
   rfl
  refine take_ (i := 1) (N := some 55) (v := ?_) (a' := ?_) #[true, true, false, false, false] rfl rfl (by kernel_rfl) (fun _ _ _ h => h) (Or.inl ⟨by rfl, ?_⟩) hHeld ?_ ?_
  rotate_left
  ·rintro w' ⟨s0, s1, s2, s3⟩
   go_simp
   with_reducible rfl
  rotate_left
  ·simp only [Act.put, List.setIfInBounds_toArray, List.set_cons_zero, List.set_cons_succ, i64_w, i32_w]
   rfl
  refine one_ (i := 2) (N := some 56) #[true, true, true, false, false] rfl rfl (by kernel_rfl) (by decide) (fun K hK => ?_)
  refine goes_ Try.func17 (by kernel_rfl) rfl #[.agg #[.slice A0_0 l0_0.length c0_0, .slice A0_1 l0_1.length c0_1]] (by rfl) rfl rfl (by (try simp only [List.map_toArray, List.map_cons, List.map_nil]); first | done | rfl | (simp only [List.length_drop, List.length_take]; rfl)) ?_
  obtain ⟨kk10, e_10⟩ := E5.out
  replace e_10 := Aside0.mk e_10
  refine (laws_toStripe.calls kk10 _ _ l0_0 _ _ l0_1 t_aA_0 t_aA_1 W9 (Kd.C_below HR0_0.out HB.out) HC0_0.out (Kd.C_below HR0_1.out HB.out) HC0_1.out e_10.out).mono ?_
  rintro e w10 ⟨v10_0, v10_1, rfl, h10_0, h10_1, hb⟩
  refine ⟨_, rfl, ?_⟩
  clear e_10
  have HO10_0 := OwnR.new (b := w.heap.size) h10_0 HB.out.size
  have HO10_1 := OwnR.new (b := w.heap.size) h10_1 HB.out.size
  have HD10_0 : Aside0 (∀ k_, some k_ = (v10_0 : Value).ownBlock → ¬ some k_ = (v10_1 : Value).ownBlock) := ⟨fun k_ h_ => by have q_ := h10_0.1 k_ h_.symm; first | exact q_ | exact q_.1⟩
  clear h10_0
  clear h10_1
  have zc10 := Aside0.mk hb.size
  replace hcaA_0 := pw_cell_below hb hcaA_0
  replace hcaA_1 := pw_cell_below hb hcaA_1
  replace hcaB_0 := pw_cell_below hb hcaB_0
  replace hcaB_1 := pw_cell_below hb hcaB_1
  replace hcw0_0 := pw_cell_below hb hcw0_0
  replace hcw0_1 := pw_cell_below hb hcw0_1
  replace hcx0_0 := pw_cell_below hb hcx0_0
  replace hcx0_1 := pw_cell_below hb hcx0_1
  replace hcx1_0 := pw_cell_below hb hcx1_0
  replace hcx1_1 := pw_cell_below hb hcx1_1
  replace hcg0_0 := pw_cell_below hb hcg0_0
  replace hcg0_1 := pw_cell_below hb hcg0_1
  replace HO3_0 := HO3_0.below hb
  replace HO3_1 := HO3_1.below hb
  replace HO5_0 := HO5_0.below hb
  replace HO5_1 := HO5_1.below hb
  replace HO6_0 := HO6_0.below hb
  replace HO6_1 := HO6_1.below hb
  replace HO7_0 := HO7_0.below hb
  replace HO7_1 := HO7_1.below hb
  replace hlaA : w.heap.size < w10.heap.size := Nat.lt_of_lt_of_le hlaA hb.size
  replace hlaB : w.heap.size + 1 < w10.heap.size := Nat.lt_of_lt_of_le hlaB hb.size
  replace hlw0 : bqq5100 < w10.heap.size := Nat.lt_of_lt_of_le hlw0 hb.size
  replace hlx0 : w5.heap.size < w10.heap.size := Nat.lt_of_lt_of_le hlx0 hb.size
  replace hlx1 : w6.heap.size < w10.heap.size := Nat.lt_of_lt_of_le hlx1 hb.size
  replace hlg0 : w7.heap.size < w10.heap.size := Nat.lt_of_lt_of_le hlg0 hb.size
  replace HB := Aside0.mk (below_on HB.out HB.out.size hb)
  clear hb
  obtain ⟨A10_0, c10_0, rfl⟩ := HO10_0.slice
  obtain ⟨A10_1, c10_1, rfl⟩ := HO10_1.slice
  refine hK.out _ _ ⟨hcx0_0, hcx0_1, hcaA_0, hcaA_1⟩ (fun hHeld => ?_)
  clear hK K
  refine norm_ (a' := ?_) ?_ ?_
  rotate_left
  ·show Act.put _ (some 56) _ = _
   simp only [Act.put, List.setIfInBounds_toArray, List.set_cons_zero, List.set_cons_succ, i64_w, i32_w]
   rfl
  refine one_ (i := 3) (N := some 57) #[true, true, true, true, false] rfl rfl (by kernel_rfl) (by decide) (fun K hK => ?_)
  refine goes_ Try.func20 (by kernel_rfl) rfl #[.agg #[.slice A5_0 t_aA_0.length c5_0, .slice A5_1 t_aA_1.length c5_1], .agg #[.slice A10_0 t_aA_0.length c10_0, .slice A10_1 t_aA_1.length c10_1]] (by rfl) rfl rfl (by (try simp only [List.map_toArray, List.map_cons, List.map_nil]); first | done | rfl | (simp only [List.length_drop, List.length_take]; rfl)) ?_
  obtain ⟨kk11, e_11⟩ := E10.out
  replace e_11 := Aside0.mk e_11
  refine (laws_eqStripe.calls kk11 _ _ t_aA_0 _ _ t_aA_1 _ _ t_aA_0 _ _ t_aA_1 true w10 HO5_0.C HO5_0.cap HO5_1.C HO5_1.cap HO10_0.C HO10_0.cap HO10_1.C HO10_1.cap e_11.out).mono ?_
  rintro e w11 ⟨rfl, hb⟩
  refine ⟨_, rfl, ?_⟩
  clear e_11
  have zc11 := Aside0.mk hb.size
  replace hcaA_0 := pw_cell_below hb hcaA_0
  replace hcaA_1 := pw_cell_below hb hcaA_1
  replace hcaB_0 := pw_cell_below hb hcaB_0
  replace hcaB_1 := pw_cell_below hb hcaB_1
  replace hcw0_0 := pw_cell_below hb hcw0_0
  replace hcw0_1 := pw_cell_below hb hcw0_1
  replace hcx0_0 := pw_cell_below hb hcx0_0
  replace hcx0_1 := pw_cell_below hb hcx0_1
  replace hcx1_0 := pw_cell_below hb hcx1_0
  replace hcx1_1 := pw_cell_below hb hcx1_1
  replace hcg0_0 := pw_cell_below hb hcg0_0
  replace hcg0_1 := pw_cell_below hb hcg0_1
  replace HO3_0 := HO3_0.below hb
  replace HO3_1 := HO3_1.below hb
  replace HO5_0 := HO5_0.below hb
  replace HO5_1 := HO5_1.below hb
  replace HO6_0 := HO6_0.below hb
  replace HO6_1 := HO6_1.below hb
  replace HO7_0 := HO7_0.below hb
  replace HO7_1 := HO7_1.below hb
  replace HO10_0 := HO10_0.below hb
  replace HO10_1 := HO10_1.below hb
  replace hlaA : w.heap.size < w11.heap.size := Nat.lt_of_lt_of_le hlaA hb.size
  replace hlaB : w.heap.size + 1 < w11.heap.size := Nat.lt_of_lt_of_le hlaB hb.size
  replace hlw0 : bqq5100 < w11.heap.size := Nat.lt_of_lt_of_le hlw0 hb.size
  replace hlx0 : w5.heap.size < w11.heap.size := Nat.lt_of_lt_of_le hlx0 hb.size
  replace hlx1 : w6.heap.size < w11.heap.size := Nat.lt_of_lt_of_le hlx1 hb.size
  replace hlg0 : w7.heap.size < w11.heap.size := Nat.lt_of_lt_of_le hlg0 hb.size
  replace HB := Aside0.mk (below_on HB.out HB.out.size hb)
  clear hb
  refine hK.out _ _ ⟨hcx0_0, hcx0_1, hcaA_0, hcaA_1⟩ (fun hHeld => ?_)
  clear hK K
  refine norm_ (a' := ?_) ?_ ?_
  rotate_left
  ·show Act.put _ (some 57) _ = _
   simp only [Act.put, List.setIfInBounds_toArray, List.set_cons_zero, List.set_cons_succ, i64_w, i32_w]
   rfl
  refine pure_ (i := 4) (N := some 58) (v := ?_) (a' := ?_) #[true, true, true, true, true] rfl rfl (by kernel_rfl) (fun _ _ _ h => h) (Or.inl ⟨by rfl, ?_⟩) ?_ ?_
  rotate_left
  ·intro w'
   go_simp
   with_reducible rfl
  rotate_left
  ·simp only [Act.put, List.setIfInBounds_toArray, List.set_cons_zero, List.set_cons_succ, i64_w, i32_w]
   rfl
  refine done_ (by kernel_rfl) ?_
  go_wp2_with fail
  have hd : Below w11.heap.size w11 w11.drew := below_drew1 (Below.refl _ _)
  refine start_ (n := 5) (S := fun w' => w'.cell? ⟨w6.heap.size, 0, none⟩ = some (.slice A6_0 t_aB_0.length c6_0) ∧ w'.cell? ⟨w6.heap.size, 1, none⟩ = some (.slice A6_1 t_aB_1.length c6_1) ∧ w'.cell? ⟨w.heap.size + 1, 0, none⟩ = some (.slice A1_0 l1_0.length c1_0) ∧ w'.cell? ⟨w.heap.size + 1, 1, none⟩ = some (.slice A1_1 l1_1.length c1_1)) (ds := []) #[false, false, false, false, false] (by kernel_rfl) rfl rfl ⟨pw_cell_below hd hcx1_0, pw_cell_below hd hcx1_1, pw_cell_below hd hcaB_0, pw_cell_below hd hcaB_1⟩ (fun hHeld => ?_)
  generalize w11.drew = W12 at hd hHeld ⊢
  have zs12 := Aside0.mk hd.size
  replace hcaA_0 := pw_cell_below hd hcaA_0
  replace hcaA_1 := pw_cell_below hd hcaA_1
  replace hcaB_0 := pw_cell_below hd hcaB_0
  replace hcaB_1 := pw_cell_below hd hcaB_1
  replace hcw0_0 := pw_cell_below hd hcw0_0
  replace hcw0_1 := pw_cell_below hd hcw0_1
  replace hcx0_0 := pw_cell_below hd hcx0_0
  replace hcx0_1 := pw_cell_below hd hcx0_1
  replace hcx1_0 := pw_cell_below hd hcx1_0
  replace hcx1_1 := pw_cell_below hd hcx1_1
  replace hcg0_0 := pw_cell_below hd hcg0_0
  replace hcg0_1 := pw_cell_below hd hcg0_1
  replace HO3_0 := HO3_0.below hd
  replace HO3_1 := HO3_1.below hd
  replace HO5_0 := HO5_0.below hd
  replace HO5_1 := HO5_1.below hd
  replace HO6_0 := HO6_0.below hd
  replace HO6_1 := HO6_1.below hd
  replace HO7_0 := HO7_0.below hd
  replace HO7_1 := HO7_1.below hd
  replace HO10_0 := HO10_0.below hd
  replace HO10_1 := HO10_1.below hd
  replace hlaA : w.heap.size < W12.heap.size := Nat.lt_of_lt_of_le hlaA hd.size
  replace hlaB : w.heap.size + 1 < W12.heap.size := Nat.lt_of_lt_of_le hlaB hd.size
  replace hlw0 : bqq5100 < W12.heap.size := Nat.lt_of_lt_of_le hlw0 hd.size
  replace hlx0 : w5.heap.size < W12.heap.size := Nat.lt_of_lt_of_le hlx0 hd.size
  replace hlx1 : w6.heap.size < W12.heap.size := Nat.lt_of_lt_of_le hlx1 hd.size
  replace hlg0 : w7.heap.size < W12.heap.size := Nat.lt_of_lt_of_le hlg0 hd.size
  replace HB := Aside0.mk (below_on HB.out HB.out.size hd)
  clear hd
  refine take_ (i := 0) (N := some 59) (v := ?_) (a' := ?_) #[true, false, false, false, false] rfl rfl (by kernel_rfl) (fun _ _ _ h => h) (Or.inl ⟨by rfl, ?_⟩) hHeld ?_ ?_
  rotate_left
  ·rintro w' ⟨s0, s1, s2, s3⟩
   go_simp
   with_reducible rfl
  rotate_left
  ·simp only [Act.put, List.setIfInBounds_toArray, List.set_cons_zero, List.set_cons_succ, i64_w, i32_w]
   rfl
  refine take_ (i := 1) (N := some 60) (v := ?_) (a' := ?_) #[true, true, false, false, false] rfl rfl (by kernel_rfl) (fun _ _ _ h => h) (Or.inl ⟨by rfl, ?_⟩) hHeld ?_ ?_
  rotate_left
  ·rintro w' ⟨s0, s1, s2, s3⟩
   go_simp
   with_reducible rfl
  rotate_left
  ·simp only [Act.put, List.setIfInBounds_toArray, List.set_cons_zero, List.set_cons_succ, i64_w, i32_w]
   rfl
  refine one_ (i := 2) (N := some 61) #[true, true, true, false, false] rfl rfl (by kernel_rfl) (by decide) (fun K hK => ?_)
  refine goes_ Try.func17 (by kernel_rfl) rfl #[.agg #[.slice A1_0 l1_0.length c1_0, .slice A1_1 l1_1.length c1_1]] (by rfl) rfl rfl (by (try simp only [List.map_toArray, List.map_cons, List.map_nil]); first | done | rfl | (simp only [List.length_drop, List.length_take]; rfl)) ?_
  obtain ⟨kk13, e_13⟩ := E6.out
  replace e_13 := Aside0.mk e_13
  refine (laws_toStripe.calls kk13 _ _ l1_0 _ _ l1_1 t_aB_0 t_aB_1 W12 (Kd.C_below HR1_0.out HB.out) HC1_0.out (Kd.C_below HR1_1.out HB.out) HC1_1.out e_13.out).mono ?_
  rintro e w13 ⟨v13_0, v13_1, rfl, h13_0, h13_1, hb⟩
  refine ⟨_, rfl, ?_⟩
  clear e_13
  have HO13_0 := OwnR.new (b := w.heap.size) h13_0 HB.out.size
  have HO13_1 := OwnR.new (b := w.heap.size) h13_1 HB.out.size
  have HD13_0 : Aside0 (∀ k_, some k_ = (v13_0 : Value).ownBlock → ¬ some k_ = (v13_1 : Value).ownBlock) := ⟨fun k_ h_ => by have q_ := h13_0.1 k_ h_.symm; first | exact q_ | exact q_.1⟩
  clear h13_0
  clear h13_1
  have zc13 := Aside0.mk hb.size
  replace hcaA_0 := pw_cell_below hb hcaA_0
  replace hcaA_1 := pw_cell_below hb hcaA_1
  replace hcaB_0 := pw_cell_below hb hcaB_0
  replace hcaB_1 := pw_cell_below hb hcaB_1
  replace hcw0_0 := pw_cell_below hb hcw0_0
  replace hcw0_1 := pw_cell_below hb hcw0_1
  replace hcx0_0 := pw_cell_below hb hcx0_0
  replace hcx0_1 := pw_cell_below hb hcx0_1
  replace hcx1_0 := pw_cell_below hb hcx1_0
  replace hcx1_1 := pw_cell_below hb hcx1_1
  replace hcg0_0 := pw_cell_below hb hcg0_0
  replace hcg0_1 := pw_cell_below hb hcg0_1
  replace HO3_0 := HO3_0.below hb
  replace HO3_1 := HO3_1.below hb
  replace HO5_0 := HO5_0.below hb
  replace HO5_1 := HO5_1.below hb
  replace HO6_0 := HO6_0.below hb
  replace HO6_1 := HO6_1.below hb
  replace HO7_0 := HO7_0.below hb
  replace HO7_1 := HO7_1.below hb
  replace HO10_0 := HO10_0.below hb
  replace HO10_1 := HO10_1.below hb
  replace hlaA : w.heap.size < w13.heap.size := Nat.lt_of_lt_of_le hlaA hb.size
  replace hlaB : w.heap.size + 1 < w13.heap.size := Nat.lt_of_lt_of_le hlaB hb.size
  replace hlw0 : bqq5100 < w13.heap.size := Nat.lt_of_lt_of_le hlw0 hb.size
  replace hlx0 : w5.heap.size < w13.heap.size := Nat.lt_of_lt_of_le hlx0 hb.size
  replace hlx1 : w6.heap.size < w13.heap.size := Nat.lt_of_lt_of_le hlx1 hb.size
  replace hlg0 : w7.heap.size < w13.heap.size := Nat.lt_of_lt_of_le hlg0 hb.size
  replace HB := Aside0.mk (below_on HB.out HB.out.size hb)
  clear hb
  obtain ⟨A13_0, c13_0, rfl⟩ := HO13_0.slice
  obtain ⟨A13_1, c13_1, rfl⟩ := HO13_1.slice
  refine hK.out _ _ ⟨hcx1_0, hcx1_1, hcaB_0, hcaB_1⟩ (fun hHeld => ?_)
  clear hK K
  refine norm_ (a' := ?_) ?_ ?_
  rotate_left
  ·show Act.put _ (some 61) _ = _
   simp only [Act.put, List.setIfInBounds_toArray, List.set_cons_zero, List.set_cons_succ, i64_w, i32_w]
   rfl
  refine one_ (i := 3) (N := some 62) #[true, true, true, true, false] rfl rfl (by kernel_rfl) (by decide) (fun K hK => ?_)
  refine goes_ Try.func20 (by kernel_rfl) rfl #[.agg #[.slice A6_0 t_aB_0.length c6_0, .slice A6_1 t_aB_1.length c6_1], .agg #[.slice A13_0 t_aB_0.length c13_0, .slice A13_1 t_aB_1.length c13_1]] (by rfl) rfl rfl (by (try simp only [List.map_toArray, List.map_cons, List.map_nil]); first | done | rfl | (simp only [List.length_drop, List.length_take]; rfl)) ?_
  obtain ⟨kk14, e_14⟩ := E11.out
  replace e_14 := Aside0.mk e_14
  refine (laws_eqStripe.calls kk14 _ _ t_aB_0 _ _ t_aB_1 _ _ t_aB_0 _ _ t_aB_1 true w13 HO6_0.C HO6_0.cap HO6_1.C HO6_1.cap HO13_0.C HO13_0.cap HO13_1.C HO13_1.cap e_14.out).mono ?_
  rintro e w14 ⟨rfl, hb⟩
  refine ⟨_, rfl, ?_⟩
  clear e_14
  have zc14 := Aside0.mk hb.size
  replace hcaA_0 := pw_cell_below hb hcaA_0
  replace hcaA_1 := pw_cell_below hb hcaA_1
  replace hcaB_0 := pw_cell_below hb hcaB_0
  replace hcaB_1 := pw_cell_below hb hcaB_1
  replace hcw0_0 := pw_cell_below hb hcw0_0
  replace hcw0_1 := pw_cell_below hb hcw0_1
  replace hcx0_0 := pw_cell_below hb hcx0_0
  replace hcx0_1 := pw_cell_below hb hcx0_1
  replace hcx1_0 := pw_cell_below hb hcx1_0
  replace hcx1_1 := pw_cell_below hb hcx1_1
  replace hcg0_0 := pw_cell_below hb hcg0_0
  replace hcg0_1 := pw_cell_below hb hcg0_1
  replace HO3_0 := HO3_0.below hb
  replace HO3_1 := HO3_1.below hb
  replace HO5_0 := HO5_0.below hb
  replace HO5_1 := HO5_1.below hb
  replace HO6_0 := HO6_0.below hb
  replace HO6_1 := HO6_1.below hb
  replace HO7_0 := HO7_0.below hb
  replace HO7_1 := HO7_1.below hb
  replace HO10_0 := HO10_0.below hb
  replace HO10_1 := HO10_1.below hb
  replace HO13_0 := HO13_0.below hb
  replace HO13_1 := HO13_1.below hb
  replace hlaA : w.heap.size < w14.heap.size := Nat.lt_of_lt_of_le hlaA hb.size
  replace hlaB : w.heap.size + 1 < w14.heap.size := Nat.lt_of_lt_of_le hlaB hb.size
  replace hlw0 : bqq5100 < w14.heap.size := Nat.lt_of_lt_of_le hlw0 hb.size
  replace hlx0 : w5.heap.size < w14.heap.size := Nat.lt_of_lt_of_le hlx0 hb.size
  replace hlx1 : w6.heap.size < w14.heap.size := Nat.lt_of_lt_of_le hlx1 hb.size
  replace hlg0 : w7.heap.size < w14.heap.size := Nat.lt_of_lt_of_le hlg0 hb.size
  replace HB := Aside0.mk (below_on HB.out HB.out.size hb)
  clear hb
  refine hK.out _ _ ⟨hcx1_0, hcx1_1, hcaB_0, hcaB_1⟩ (fun hHeld => ?_)
  clear hK K
  refine norm_ (a' := ?_) ?_ ?_
  rotate_left
  ·show Act.put _ (some 62) _ = _
   simp only [Act.put, List.setIfInBounds_toArray, List.set_cons_zero, List.set_cons_succ, i64_w, i32_w]
   rfl
  refine pure_ (i := 4) (N := some 63) (v := ?_) (a' := ?_) #[true, true, true, true, true] rfl rfl (by kernel_rfl) (fun _ _ _ h => h) (Or.inl ⟨by rfl, ?_⟩) ?_ ?_
  rotate_left
  ·intro w'
   go_simp
   with_reducible rfl
  rotate_left
  ·simp only [Act.put, List.setIfInBounds_toArray, List.set_cons_zero, List.set_cons_succ, i64_w, i32_w]
   rfl
  refine done_ (by kernel_rfl) ?_
  go_wp2_with fail
  refine calls_named fun W15 hW => ?_
  have hs : Below w14.heap.size w14 W15 := by rw [hW]; repeat (first | exact Below.refl _ _ | apply below_alloc | apply below_drew1 | apply pw_below_drewN)
  clear hW
  replace hcaA_0 := pw_cell_below hs hcaA_0
  replace hcaA_1 := pw_cell_below hs hcaA_1
  replace hcaB_0 := pw_cell_below hs hcaB_0
  replace hcaB_1 := pw_cell_below hs hcaB_1
  replace hcw0_0 := pw_cell_below hs hcw0_0
  replace hcw0_1 := pw_cell_below hs hcw0_1
  replace hcx0_0 := pw_cell_below hs hcx0_0
  replace hcx0_1 := pw_cell_below hs hcx0_1
  replace hcx1_0 := pw_cell_below hs hcx1_0
  replace hcx1_1 := pw_cell_below hs hcx1_1
  replace hcg0_0 := pw_cell_below hs hcg0_0
  replace hcg0_1 := pw_cell_below hs hcg0_1
  replace HO3_0 := HO3_0.below hs
  replace HO3_1 := HO3_1.below hs
  replace HO5_0 := HO5_0.below hs
  replace HO5_1 := HO5_1.below hs
  replace HO6_0 := HO6_0.below hs
  replace HO6_1 := HO6_1.below hs
  replace HO7_0 := HO7_0.below hs
  replace HO7_1 := HO7_1.below hs
  replace HO10_0 := HO10_0.below hs
  replace HO10_1 := HO10_1.below hs
  replace HO13_0 := HO13_0.below hs
  replace HO13_1 := HO13_1.below hs
  replace hlaA : w.heap.size < W15.heap.size := Nat.lt_of_lt_of_le hlaA hs.size
  replace hlaB : w.heap.size + 1 < W15.heap.size := Nat.lt_of_lt_of_le hlaB hs.size
  replace hlw0 : bqq5100 < W15.heap.size := Nat.lt_of_lt_of_le hlw0 hs.size
  replace hlx0 : w5.heap.size < W15.heap.size := Nat.lt_of_lt_of_le hlx0 hs.size
  replace hlx1 : w6.heap.size < W15.heap.size := Nat.lt_of_lt_of_le hlx1 hs.size
  replace hlg0 : w7.heap.size < W15.heap.size := Nat.lt_of_lt_of_le hlg0 hs.size
  replace HB := Aside0.mk (below_on HB.out HB.out.size hs)
  have zs15 := Aside0.mk hs.size
  clear hs
  obtain ⟨kk15, e_15⟩ := HMT2.out t_aA_0 t_aA_1 1 (by have := HT0.out; have := HT1.out; omega) (by have := HT0.out; have := HT1.out; omega)
  replace e_15 := Aside0.mk e_15
  refine (laws_markStripe.calls kk15 (fun k => some k = (.slice A5_0 t_aA_0.length c5_0 : Value).ownBlock) _ t_aA_0 (fun k => some k = (.slice A5_1 t_aA_1.length c5_1 : Value).ownBlock) _ t_aA_1 1 _ _ _ w W15 HB.out (HO5_0.tight rfl) (fun k_ h1_ h2_ => HD5_0.out k_ h1_ h2_) (HO5_1.tight rfl) (fun k_ h1_ h2_ => HD5_0.out k_ h2_ h1_) e_15.out).mono ?_
  rintro e w15 ⟨rfl, hS, hS2, hB, hk⟩
  clear e_15
  replace hk := kept_mono (P' := fun k => W5.heap.size ≤ k ∧ k < w5.heap.size) hk (fun k_ h1_ => h1_.elim (fun h2_ => HO5_0.inside h2_) (fun h2_ => HO5_1.inside h2_))
  replace HO5_0 := OwnR.marked2 rfl HO5_0 hS
  replace HO5_1 := OwnR.marked2 rfl HO5_1 hS2
  clear hS hS2
  have zc15 := Aside0.mk hk.1
  replace hcaA_0 := cell_kept hcaA_0 hk (fun h3_ => by have h4_ : W5.heap.size ≤ w.heap.size ∧ w.heap.size < w5.heap.size := h3_; clear h3_; have := zlaA.out; have := zlaB.out; have := zs1.out; have := zc1.out; have := zs2.out; have := zc2.out; have := zs3.out; have := zlo3.out; have := zhi3.out; have := zge3.out; have := znb3.out; have := zbl3.out; have := zT3.out; have := zlw0.out; have := zhz4.out; have := zs4.out; have := zs5.out; have := zc5.out; have := zlx0.out; have := zs6.out; have := zc6.out; have := zlx1.out; have := zs7.out; have := zc7.out; have := zlg0.out; have := zs8.out; have := zc8.out; have := zs9.out; have := zc10.out; have := zc11.out; have := zs12.out; have := zc13.out; have := zc14.out; have := zs15.out; have := zc15.out; omega)
  replace hcaA_1 := cell_kept hcaA_1 hk (fun h3_ => by have h4_ : W5.heap.size ≤ w.heap.size ∧ w.heap.size < w5.heap.size := h3_; clear h3_; have := zlaA.out; have := zlaB.out; have := zs1.out; have := zc1.out; have := zs2.out; have := zc2.out; have := zs3.out; have := zlo3.out; have := zhi3.out; have := zge3.out; have := znb3.out; have := zbl3.out; have := zT3.out; have := zlw0.out; have := zhz4.out; have := zs4.out; have := zs5.out; have := zc5.out; have := zlx0.out; have := zs6.out; have := zc6.out; have := zlx1.out; have := zs7.out; have := zc7.out; have := zlg0.out; have := zs8.out; have := zc8.out; have := zs9.out; have := zc10.out; have := zc11.out; have := zs12.out; have := zc13.out; have := zc14.out; have := zs15.out; have := zc15.out; omega)
  replace hcaB_0 := cell_kept hcaB_0 hk (fun h3_ => by have h4_ : W5.heap.size ≤ w.heap.size + 1 ∧ w.heap.size + 1 < w5.heap.size := h3_; clear h3_; have := zlaA.out; have := zlaB.out; have := zs1.out; have := zc1.out; have := zs2.out; have := zc2.out; have := zs3.out; have := zlo3.out; have := zhi3.out; have := zge3.out; have := znb3.out; have := zbl3.out; have := zT3.out; have := zlw0.out; have := zhz4.out; have := zs4.out; have := zs5.out; have := zc5.out; have := zlx0.out; have := zs6.out; have := zc6.out; have := zlx1.out; have := zs7.out; have := zc7.out; have := zlg0.out; have := zs8.out; have := zc8.out; have := zs9.out; have := zc10.out; have := zc11.out; have := zs12.out; have := zc13.out; have := zc14.out; have := zs15.out; have := zc15.out; omega)
  replace hcaB_1 := cell_kept hcaB_1 hk (fun h3_ => by have h4_ : W5.heap.size ≤ w.heap.size + 1 ∧ w.heap.size + 1 < w5.heap.size := h3_; clear h3_; have := zlaA.out; have := zlaB.out; have := zs1.out; have := zc1.out; have := zs2.out; have := zc2.out; have := zs3.out; have := zlo3.out; have := zhi3.out; have := zge3.out; have := znb3.out; have := zbl3.out; have := zT3.out; have := zlw0.out; have := zhz4.out; have := zs4.out; have := zs5.out; have := zc5.out; have := zlx0.out; have := zs6.out; have := zc6.out; have := zlx1.out; have := zs7.out; have := zc7.out; have := zlg0.out; have := zs8.out; have := zc8.out; have := zs9.out; have := zc10.out; have := zc11.out; have := zs12.out; have := zc13.out; have := zc14.out; have := zs15.out; have := zc15.out; omega)
  replace hcw0_0 := cell_kept hcw0_0 hk (fun h3_ => by have h4_ : W5.heap.size ≤ bqq5100 ∧ bqq5100 < w5.heap.size := h3_; clear h3_; have := zlaA.out; have := zlaB.out; have := zs1.out; have := zc1.out; have := zs2.out; have := zc2.out; have := zs3.out; have := zlo3.out; have := zhi3.out; have := zge3.out; have := znb3.out; have := zbl3.out; have := zT3.out; have := zlw0.out; have := zhz4.out; have := zs4.out; have := zs5.out; have := zc5.out; have := zlx0.out; have := zs6.out; have := zc6.out; have := zlx1.out; have := zs7.out; have := zc7.out; have := zlg0.out; have := zs8.out; have := zc8.out; have := zs9.out; have := zc10.out; have := zc11.out; have := zs12.out; have := zc13.out; have := zc14.out; have := zs15.out; have := zc15.out; omega)
  replace hcw0_1 := cell_kept hcw0_1 hk (fun h3_ => by have h4_ : W5.heap.size ≤ bqq5100 ∧ bqq5100 < w5.heap.size := h3_; clear h3_; have := zlaA.out; have := zlaB.out; have := zs1.out; have := zc1.out; have := zs2.out; have := zc2.out; have := zs3.out; have := zlo3.out; have := zhi3.out; have := zge3.out; have := znb3.out; have := zbl3.out; have := zT3.out; have := zlw0.out; have := zhz4.out; have := zs4.out; have := zs5.out; have := zc5.out; have := zlx0.out; have := zs6.out; have := zc6.out; have := zlx1.out; have := zs7.out; have := zc7.out; have := zlg0.out; have := zs8.out; have := zc8.out; have := zs9.out; have := zc10.out; have := zc11.out; have := zs12.out; have := zc13.out; have := zc14.out; have := zs15.out; have := zc15.out; omega)
  replace hcx0_0 := cell_kept hcx0_0 hk (fun h3_ => by have h4_ : W5.heap.size ≤ w5.heap.size ∧ w5.heap.size < w5.heap.size := h3_; clear h3_; have := zlaA.out; have := zlaB.out; have := zs1.out; have := zc1.out; have := zs2.out; have := zc2.out; have := zs3.out; have := zlo3.out; have := zhi3.out; have := zge3.out; have := znb3.out; have := zbl3.out; have := zT3.out; have := zlw0.out; have := zhz4.out; have := zs4.out; have := zs5.out; have := zc5.out; have := zlx0.out; have := zs6.out; have := zc6.out; have := zlx1.out; have := zs7.out; have := zc7.out; have := zlg0.out; have := zs8.out; have := zc8.out; have := zs9.out; have := zc10.out; have := zc11.out; have := zs12.out; have := zc13.out; have := zc14.out; have := zs15.out; have := zc15.out; omega)
  replace hcx0_1 := cell_kept hcx0_1 hk (fun h3_ => by have h4_ : W5.heap.size ≤ w5.heap.size ∧ w5.heap.size < w5.heap.size := h3_; clear h3_; have := zlaA.out; have := zlaB.out; have := zs1.out; have := zc1.out; have := zs2.out; have := zc2.out; have := zs3.out; have := zlo3.out; have := zhi3.out; have := zge3.out; have := znb3.out; have := zbl3.out; have := zT3.out; have := zlw0.out; have := zhz4.out; have := zs4.out; have := zs5.out; have := zc5.out; have := zlx0.out; have := zs6.out; have := zc6.out; have := zlx1.out; have := zs7.out; have := zc7.out; have := zlg0.out; have := zs8.out; have := zc8.out; have := zs9.out; have := zc10.out; have := zc11.out; have := zs12.out; have := zc13.out; have := zc14.out; have := zs15.out; have := zc15.out; omega)
  replace hcx1_0 := cell_kept hcx1_0 hk (fun h3_ => by have h4_ : W5.heap.size ≤ w6.heap.size ∧ w6.heap.size < w5.heap.size := h3_; clear h3_; have := zlaA.out; have := zlaB.out; have := zs1.out; have := zc1.out; have := zs2.out; have := zc2.out; have := zs3.out; have := zlo3.out; have := zhi3.out; have := zge3.out; have := znb3.out; have := zbl3.out; have := zT3.out; have := zlw0.out; have := zhz4.out; have := zs4.out; have := zs5.out; have := zc5.out; have := zlx0.out; have := zs6.out; have := zc6.out; have := zlx1.out; have := zs7.out; have := zc7.out; have := zlg0.out; have := zs8.out; have := zc8.out; have := zs9.out; have := zc10.out; have := zc11.out; have := zs12.out; have := zc13.out; have := zc14.out; have := zs15.out; have := zc15.out; omega)
  replace hcx1_1 := cell_kept hcx1_1 hk (fun h3_ => by have h4_ : W5.heap.size ≤ w6.heap.size ∧ w6.heap.size < w5.heap.size := h3_; clear h3_; have := zlaA.out; have := zlaB.out; have := zs1.out; have := zc1.out; have := zs2.out; have := zc2.out; have := zs3.out; have := zlo3.out; have := zhi3.out; have := zge3.out; have := znb3.out; have := zbl3.out; have := zT3.out; have := zlw0.out; have := zhz4.out; have := zs4.out; have := zs5.out; have := zc5.out; have := zlx0.out; have := zs6.out; have := zc6.out; have := zlx1.out; have := zs7.out; have := zc7.out; have := zlg0.out; have := zs8.out; have := zc8.out; have := zs9.out; have := zc10.out; have := zc11.out; have := zs12.out; have := zc13.out; have := zc14.out; have := zs15.out; have := zc15.out; omega)
  replace hcg0_0 := cell_kept hcg0_0 hk (fun h3_ => by have h4_ : W5.heap.size ≤ w7.heap.size ∧ w7.heap.size < w5.heap.size := h3_; clear h3_; have := zlaA.out; have := zlaB.out; have := zs1.out; have := zc1.out; have := zs2.out; have := zc2.out; have := zs3.out; have := zlo3.out; have := zhi3.out; have := zge3.out; have := znb3.out; have := zbl3.out; have := zT3.out; have := zlw0.out; have := zhz4.out; have := zs4.out; have := zs5.out; have := zc5.out; have := zlx0.out; have := zs6.out; have := zc6.out; have := zlx1.out; have := zs7.out; have := zc7.out; have := zlg0.out; have := zs8.out; have := zc8.out; have := zs9.out; have := zc10.out; have := zc11.out; have := zs12.out; have := zc13.out; have := zc14.out; have := zs15.out; have := zc15.out; omega)
  replace hcg0_1 := cell_kept hcg0_1 hk (fun h3_ => by have h4_ : W5.heap.size ≤ w7.heap.size ∧ w7.heap.size < w5.heap.size := h3_; clear h3_; have := zlaA.out; have := zlaB.out; have := zs1.out; have := zc1.out; have := zs2.out; have := zc2.out; have := zs3.out; have := zlo3.out; have := zhi3.out; have := zge3.out; have := znb3.out; have := zbl3.out; have := zT3.out; have := zlw0.out; have := zhz4.out; have := zs4.out; have := zs5.out; have := zc5.out; have := zlx0.out; have := zs6.out; have := zc6.out; have := zlx1.out; have := zs7.out; have := zc7.out; have := zlg0.out; have := zs8.out; have := zc8.out; have := zs9.out; have := zc10.out; have := zc11.out; have := zs12.out; have := zc13.out; have := zc14.out; have := zs15.out; have := zc15.out; omega)
  replace HO3_0 := HO3_0.kept hk (fun k_ h1_ h2_ h3_ => by have := zlaA.out; have := zlaB.out; have := zs1.out; have := zc1.out; have := zs2.out; have := zc2.out; have := zs3.out; have := zlo3.out; have := zhi3.out; have := zge3.out; have := znb3.out; have := zbl3.out; have := zT3.out; have := zlw0.out; have := zhz4.out; have := zs4.out; have := zs5.out; have := zc5.out; have := zlx0.out; have := zs6.out; have := zc6.out; have := zlx1.out; have := zs7.out; have := zc7.out; have := zlg0.out; have := zs8.out; have := zc8.out; have := zs9.out; have := zc10.out; have := zc11.out; have := zs12.out; have := zc13.out; have := zc14.out; have := zs15.out; have := zc15.out; obtain ⟨h4_, h5_⟩ := h3_; omega)
  replace HO3_1 := HO3_1.kept hk (fun k_ h1_ h2_ h3_ => by have := zlaA.out; have := zlaB.out; have := zs1.out; have := zc1.out; have := zs2.out; have := zc2.out; have := zs3.out; have := zlo3.out; have := zhi3.out; have := zge3.out; have := znb3.out; have := zbl3.out; have := zT3.out; have := zlw0.out; have := zhz4.out; have := zs4.out; have := zs5.out; have := zc5.out; have := zlx0.out; have := zs6.out; have := zc6.out; have := zlx1.out; have := zs7.out; have := zc7.out; have := zlg0.out; have := zs8.out; have := zc8.out; have := zs9.out; have := zc10.out; have := zc11.out; have := zs12.out; have := zc13.out; have := zc14.out; have := zs15.out; have := zc15.out; obtain ⟨h4_, h5_⟩ := h3_; omega)
  replace HO6_0 := HO6_0.kept hk (fun k_ h1_ h2_ h3_ => by have := zlaA.out; have := zlaB.out; have := zs1.out; have := zc1.out; have := zs2.out; have := zc2.out; have := zs3.out; have := zlo3.out; have := zhi3.out; have := zge3.out; have := znb3.out; have := zbl3.out; have := zT3.out; have := zlw0.out; have := zhz4.out; have := zs4.out; have := zs5.out; have := zc5.out; have := zlx0.out; have := zs6.out; have := zc6.out; have := zlx1.out; have := zs7.out; have := zc7.out; have := zlg0.out; have := zs8.out; have := zc8.out; have := zs9.out; have := zc10.out; have := zc11.out; have := zs12.out; have := zc13.out; have := zc14.out; have := zs15.out; have := zc15.out; obtain ⟨h4_, h5_⟩ := h3_; omega)
  replace HO6_1 := HO6_1.kept hk (fun k_ h1_ h2_ h3_ => by have := zlaA.out; have := zlaB.out; have := zs1.out; have := zc1.out; have := zs2.out; have := zc2.out; have := zs3.out; have := zlo3.out; have := zhi3.out; have := zge3.out; have := znb3.out; have := zbl3.out; have := zT3.out; have := zlw0.out; have := zhz4.out; have := zs4.out; have := zs5.out; have := zc5.out; have := zlx0.out; have := zs6.out; have := zc6.out; have := zlx1.out; have := zs7.out; have := zc7.out; have := zlg0.out; have := zs8.out; have := zc8.out; have := zs9.out; have := zc10.out; have := zc11.out; have := zs12.out; have := zc13.out; have := zc14.out; have := zs15.out; have := zc15.out; obtain ⟨h4_, h5_⟩ := h3_; omega)
  replace HO7_0 := HO7_0.kept hk (fun k_ h1_ h2_ h3_ => by have := zlaA.out; have := zlaB.out; have := zs1.out; have := zc1.out; have := zs2.out; have := zc2.out; have := zs3.out; have := zlo3.out; have := zhi3.out; have := zge3.out; have := znb3.out; have := zbl3.out; have := zT3.out; have := zlw0.out; have := zhz4.out; have := zs4.out; have := zs5.out; have := zc5.out; have := zlx0.out; have := zs6.out; have := zc6.out; have := zlx1.out; have := zs7.out; have := zc7.out; have := zlg0.out; have := zs8.out; have := zc8.out; have := zs9.out; have := zc10.out; have := zc11.out; have := zs12.out; have := zc13.out; have := zc14.out; have := zs15.out; have := zc15.out; obtain ⟨h4_, h5_⟩ := h3_; omega)
  replace HO7_1 := HO7_1.kept hk (fun k_ h1_ h2_ h3_ => by have := zlaA.out; have := zlaB.out; have := zs1.out; have := zc1.out; have := zs2.out; have := zc2.out; have := zs3.out; have := zlo3.out; have := zhi3.out; have := zge3.out; have := znb3.out; have := zbl3.out; have := zT3.out; have := zlw0.out; have := zhz4.out; have := zs4.out; have := zs5.out; have := zc5.out; have := zlx0.out; have := zs6.out; have := zc6.out; have := zlx1.out; have := zs7.out; have := zc7.out; have := zlg0.out; have := zs8.out; have := zc8.out; have := zs9.out; have := zc10.out; have := zc11.out; have := zs12.out; have := zc13.out; have := zc14.out; have := zs15.out; have := zc15.out; obtain ⟨h4_, h5_⟩ := h3_; omega)
  replace HO10_0 := HO10_0.kept hk (fun k_ h1_ h2_ h3_ => by have := zlaA.out; have := zlaB.out; have := zs1.out; have := zc1.out; have := zs2.out; have := zc2.out; have := zs3.out; have := zlo3.out; have := zhi3.out; have := zge3.out; have := znb3.out; have := zbl3.out; have := zT3.out; have := zlw0.out; have := zhz4.out; have := zs4.out; have := zs5.out; have := zc5.out; have := zlx0.out; have := zs6.out; have := zc6.out; have := zlx1.out; have := zs7.out; have := zc7.out; have := zlg0.out; have := zs8.out; have := zc8.out; have := zs9.out; have := zc10.out; have := zc11.out; have := zs12.out; have := zc13.out; have := zc14.out; have := zs15.out; have := zc15.out; obtain ⟨h4_, h5_⟩ := h3_; omega)
  replace HO10_1 := HO10_1.kept hk (fun k_ h1_ h2_ h3_ => by have := zlaA.out; have := zlaB.out; have := zs1.out; have := zc1.out; have := zs2.out; have := zc2.out; have := zs3.out; have := zlo3.out; have := zhi3.out; have := zge3.out; have := znb3.out; have := zbl3.out; have := zT3.out; have := zlw0.out; have := zhz4.out; have := zs4.out; have := zs5.out; have := zc5.out; have := zlx0.out; have := zs6.out; have := zc6.out; have := zlx1.out; have := zs7.out; have := zc7.out; have := zlg0.out; have := zs8.out; have := zc8.out; have := zs9.out; have := zc10.out; have := zc11.out; have := zs12.out; have := zc13.out; have := zc14.out; have := zs15.out; have := zc15.out; obtain ⟨h4_, h5_⟩ := h3_; omega)
  replace HO13_0 := HO13_0.kept hk (fun k_ h1_ h2_ h3_ => by have := zlaA.out; have := zlaB.out; have := zs1.out; have := zc1.out; have := zs2.out; have := zc2.out; have := zs3.out; have := zlo3.out; have := zhi3.out; have := zge3.out; have := znb3.out; have := zbl3.out; have := zT3.out; have := zlw0.out; have := zhz4.out; have := zs4.out; have := zs5.out; have := zc5.out; have := zlx0.out; have := zs6.out; have := zc6.out; have := zlx1.out; have := zs7.out; have := zc7.out; have := zlg0.out; have := zs8.out; have := zc8.out; have := zs9.out; have := zc10.out; have := zc11.out; have := zs12.out; have := zc13.out; have := zc14.out; have := zs15.out; have := zc15.out; obtain ⟨h4_, h5_⟩ := h3_; omega)
  replace HO13_1 := HO13_1.kept hk (fun k_ h1_ h2_ h3_ => by have := zlaA.out; have := zlaB.out; have := zs1.out; have := zc1.out; have := zs2.out; have := zc2.out; have := zs3.out; have := zlo3.out; have := zhi3.out; have := zge3.out; have := znb3.out; have := zbl3.out; have := zT3.out; have := zlw0.out; have := zhz4.out; have := zs4.out; have := zs5.out; have := zc5.out; have := zlx0.out; have := zs6.out; have := zc6.out; have := zlx1.out; have := zs7.out; have := zc7.out; have := zlg0.out; have := zs8.out; have := zc8.out; have := zs9.out; have := zc10.out; have := zc11.out; have := zs12.out; have := zc13.out; have := zc14.out; have := zs15.out; have := zc15.out; obtain ⟨h4_, h5_⟩ := h3_; omega)
  replace hlaA : w.heap.size < w15.heap.size := Nat.lt_of_lt_of_le hlaA hk.1
  replace hlaB : w.heap.size + 1 < w15.heap.size := Nat.lt_of_lt_of_le hlaB hk.1
  replace hlw0 : bqq5100 < w15.heap.size := Nat.lt_of_lt_of_le hlw0 hk.1
  replace hlx0 : w5.heap.size < w15.heap.size := Nat.lt_of_lt_of_le hlx0 hk.1
  replace hlx1 : w6.heap.size < w15.heap.size := Nat.lt_of_lt_of_le hlx1 hk.1
  replace hlg0 : w7.heap.size < w15.heap.size := Nat.lt_of_lt_of_le hlg0 hk.1
  replace HB := Aside0.mk hB
  clear hB hk
  go_wp2_with fail
  refine calls_named fun W16 hW => ?_
  have hs : Below w15.heap.size w15 W16 := by rw [hW]; repeat (first | exact Below.refl _ _ | apply below_alloc | apply below_drew1 | apply pw_below_drewN)
  clear hW
  replace hcaA_0 := pw_cell_below hs hcaA_0
  replace hcaA_1 := pw_cell_below hs hcaA_1
  replace hcaB_0 := pw_cell_below hs hcaB_0
  replace hcaB_1 := pw_cell_below hs hcaB_1
  replace hcw0_0 := pw_cell_below hs hcw0_0
  replace hcw0_1 := pw_cell_below hs hcw0_1
  replace hcx0_0 := pw_cell_below hs hcx0_0
  replace hcx0_1 := pw_cell_below hs hcx0_1
  replace hcx1_0 := pw_cell_below hs hcx1_0
  replace hcx1_1 := pw_cell_below hs hcx1_1
  replace hcg0_0 := pw_cell_below hs hcg0_0
  replace hcg0_1 := pw_cell_below hs hcg0_1
  replace HO3_0 := HO3_0.below hs
  replace HO3_1 := HO3_1.below hs
  replace HO5_0 := HO5_0.below hs
  replace HO5_1 := HO5_1.below hs
  replace HO6_0 := HO6_0.below hs
  replace HO6_1 := HO6_1.below hs
  replace HO7_0 := HO7_0.below hs
  replace HO7_1 := HO7_1.below hs
  replace HO10_0 := HO10_0.below hs
  replace HO10_1 := HO10_1.below hs
  replace HO13_0 := HO13_0.below hs
  replace HO13_1 := HO13_1.below hs
  replace hlaA : w.heap.size < W16.heap.size := Nat.lt_of_lt_of_le hlaA hs.size
  replace hlaB : w.heap.size + 1 < W16.heap.size := Nat.lt_of_lt_of_le hlaB hs.size
  replace hlw0 : bqq5100 < W16.heap.size := Nat.lt_of_lt_of_le hlw0 hs.size
  replace hlx0 : w5.heap.size < W16.heap.size := Nat.lt_of_lt_of_le hlx0 hs.size
  replace hlx1 : w6.heap.size < W16.heap.size := Nat.lt_of_lt_of_le hlx1 hs.size
  replace hlg0 : w7.heap.size < W16.heap.size := Nat.lt_of_lt_of_le hlg0 hs.size
  replace HB := Aside0.mk (below_on HB.out HB.out.size hs)
  have zs16 := Aside0.mk hs.size
  clear hs
  obtain ⟨kk16, e_16⟩ := HMT2.out t_aB_0 t_aB_1 (1 + ((t_aA_0.length : Nat) : Int) + ((t_aA_1.length : Nat) : Int)) (by have := HT0.out; have := HT1.out; have := HT2.out; have := HT3.out; omega) (by have := HT0.out; have := HT1.out; have := HT2.out; have := HT3.out; omega)
  replace e_16 := Aside0.mk e_16
  refine (laws_markStripe.calls kk16 (fun k => some k = (.slice A6_0 t_aB_0.length c6_0 : Value).ownBlock) _ t_aB_0 (fun k => some k = (.slice A6_1 t_aB_1.length c6_1 : Value).ownBlock) _ t_aB_1 (1 + ((t_aA_0.length : Nat) : Int) + ((t_aA_1.length : Nat) : Int)) _ _ _ w W16 HB.out (HO6_0.tight rfl) (fun k_ h1_ h2_ => HD6_0.out k_ h1_ h2_) (HO6_1.tight rfl) (fun k_ h1_ h2_ => HD6_0.out k_ h2_ h1_) e_16.out).mono ?_
  rintro e w16 ⟨rfl, hS, hS2, hB, hk⟩
  clear e_16
  replace hk := kept_mono (P' := fun k => W6.heap.size ≤ k ∧ k < w6.heap.size) hk (fun k_ h1_ => h1_.elim (fun h2_ => HO6_0.inside h2_) (fun h2_ => HO6_1.inside h2_))
  replace HO6_0 := OwnR.marked2 rfl HO6_0 hS
  replace HO6_1 := OwnR.marked2 rfl HO6_1 hS2
  clear hS hS2
  have zc16 := Aside0.mk hk.1
  replace hcaA_0 := cell_kept hcaA_0 hk (fun h3_ => by have h4_ : W6.heap.size ≤ w.heap.size ∧ w.heap.size < w6.heap.size := h3_; clear h3_; have := zlaA.out; have := zlaB.out; have := zs1.out; have := zc1.out; have := zs2.out; have := zc2.out; have := zs3.out; have := zlo3.out; have := zhi3.out; have := zge3.out; have := znb3.out; have := zbl3.out; have := zT3.out; have := zlw0.out; have := zhz4.out; have := zs4.out; have := zs5.out; have := zc5.out; have := zlx0.out; have := zs6.out; have := zc6.out; have := zlx1.out; have := zs7.out; have := zc7.out; have := zlg0.out; have := zs8.out; have := zc8.out; have := zs9.out; have := zc10.out; have := zc11.out; have := zs12.out; have := zc13.out; have := zc14.out; have := zs15.out; have := zc15.out; have := zs16.out; have := zc16.out; omega)
  replace hcaA_1 := cell_kept hcaA_1 hk (fun h3_ => by have h4_ : W6.heap.size ≤ w.heap.size ∧ w.heap.size < w6.heap.size := h3_; clear h3_; have := zlaA.out; have := zlaB.out; have := zs1.out; have := zc1.out; have := zs2.out; have := zc2.out; have := zs3.out; have := zlo3.out; have := zhi3.out; have := zge3.out; have := znb3.out; have := zbl3.out; have := zT3.out; have := zlw0.out; have := zhz4.out; have := zs4.out; have := zs5.out; have := zc5.out; have := zlx0.out; have := zs6.out; have := zc6.out; have := zlx1.out; have := zs7.out; have := zc7.out; have := zlg0.out; have := zs8.out; have := zc8.out; have := zs9.out; have := zc10.out; have := zc11.out; have := zs12.out; have := zc13.out; have := zc14.out; have := zs15.out; have := zc15.out; have := zs16.out; have := zc16.out; omega)
  replace hcaB_0 := cell_kept hcaB_0 hk (fun h3_ => by have h4_ : W6.heap.size ≤ w.heap.size + 1 ∧ w.heap.size + 1 < w6.heap.size := h3_; clear h3_; have := zlaA.out; have := zlaB.out; have := zs1.out; have := zc1.out; have := zs2.out; have := zc2.out; have := zs3.out; have := zlo3.out; have := zhi3.out; have := zge3.out; have := znb3.out; have := zbl3.out; have := zT3.out; have := zlw0.out; have := zhz4.out; have := zs4.out; have := zs5.out; have := zc5.out; have := zlx0.out; have := zs6.out; have := zc6.out; have := zlx1.out; have := zs7.out; have := zc7.out; have := zlg0.out; have := zs8.out; have := zc8.out; have := zs9.out; have := zc10.out; have := zc11.out; have := zs12.out; have := zc13.out; have := zc14.out; have := zs15.out; have := zc15.out; have := zs16.out; have := zc16.out; omega)
  replace hcaB_1 := cell_kept hcaB_1 hk (fun h3_ => by have h4_ : W6.heap.size ≤ w.heap.size + 1 ∧ w.heap.size + 1 < w6.heap.size := h3_; clear h3_; have := zlaA.out; have := zlaB.out; have := zs1.out; have := zc1.out; have := zs2.out; have := zc2.out; have := zs3.out; have := zlo3.out; have := zhi3.out; have := zge3.out; have := znb3.out; have := zbl3.out; have := zT3.out; have := zlw0.out; have := zhz4.out; have := zs4.out; have := zs5.out; have := zc5.out; have := zlx0.out; have := zs6.out; have := zc6.out; have := zlx1.out; have := zs7.out; have := zc7.out; have := zlg0.out; have := zs8.out; have := zc8.out; have := zs9.out; have := zc10.out; have := zc11.out; have := zs12.out; have := zc13.out; have := zc14.out; have := zs15.out; have := zc15.out; have := zs16.out; have := zc16.out; omega)
  replace hcw0_0 := cell_kept hcw0_0 hk (fun h3_ => by have h4_ : W6.heap.size ≤ bqq5100 ∧ bqq5100 < w6.heap.size := h3_; clear h3_; have := zlaA.out; have := zlaB.out; have := zs1.out; have := zc1.out; have := zs2.out; have := zc2.out; have := zs3.out; have := zlo3.out; have := zhi3.out; have := zge3.out; have := znb3.out; have := zbl3.out; have := zT3.out; have := zlw0.out; have := zhz4.out; have := zs4.out; have := zs5.out; have := zc5.out; have := zlx0.out; have := zs6.out; have := zc6.out; have := zlx1.out; have := zs7.out; have := zc7.out; have := zlg0.out; have := zs8.out; have := zc8.out; have := zs9.out; have := zc10.out; have := zc11.out; have := zs12.out; have := zc13.out; have := zc14.out; have := zs15.out; have := zc15.out; have := zs16.out; have := zc16.out; omega)
  replace hcw0_1 := cell_kept hcw0_1 hk (fun h3_ => by have h4_ : W6.heap.size ≤ bqq5100 ∧ bqq5100 < w6.heap.size := h3_; clear h3_; have := zlaA.out; have := zlaB.out; have := zs1.out; have := zc1.out; have := zs2.out; have := zc2.out; have := zs3.out; have := zlo3.out; have := zhi3.out; have := zge3.out; have := znb3.out; have := zbl3.out; have := zT3.out; have := zlw0.out; have := zhz4.out; have := zs4.out; have := zs5.out; have := zc5.out; have := zlx0.out; have := zs6.out; have := zc6.out; have := zlx1.out; have := zs7.out; have := zc7.out; have := zlg0.out; have := zs8.out; have := zc8.out; have := zs9.out; have := zc10.out; have := zc11.out; have := zs12.out; have := zc13.out; have := zc14.out; have := zs15.out; have := zc15.out; have := zs16.out; have := zc16.out; omega)
  replace hcx0_0 := cell_kept hcx0_0 hk (fun h3_ => by have h4_ : W6.heap.size ≤ w5.heap.size ∧ w5.heap.size < w6.heap.size := h3_; clear h3_; have := zlaA.out; have := zlaB.out; have := zs1.out; have := zc1.out; have := zs2.out; have := zc2.out; have := zs3.out; have := zlo3.out; have := zhi3.out; have := zge3.out; have := znb3.out; have := zbl3.out; have := zT3.out; have := zlw0.out; have := zhz4.out; have := zs4.out; have := zs5.out; have := zc5.out; have := zlx0.out; have := zs6.out; have := zc6.out; have := zlx1.out; have := zs7.out; have := zc7.out; have := zlg0.out; have := zs8.out; have := zc8.out; have := zs9.out; have := zc10.out; have := zc11.out; have := zs12.out; have := zc13.out; have := zc14.out; have := zs15.out; have := zc15.out; have := zs16.out; have := zc16.out; omega)
  replace hcx0_1 := cell_kept hcx0_1 hk (fun h3_ => by have h4_ : W6.heap.size ≤ w5.heap.size ∧ w5.heap.size < w6.heap.size := h3_; clear h3_; have := zlaA.out; have := zlaB.out; have := zs1.out; have := zc1.out; have := zs2.out; have := zc2.out; have := zs3.out; have := zlo3.out; have := zhi3.out; have := zge3.out; have := znb3.out; have := zbl3.out; have := zT3.out; have := zlw0.out; have := zhz4.out; have := zs4.out; have := zs5.out; have := zc5.out; have := zlx0.out; have := zs6.out; have := zc6.out; have := zlx1.out; have := zs7.out; have := zc7.out; have := zlg0.out; have := zs8.out; have := zc8.out; have := zs9.out; have := zc10.out; have := zc11.out; have := zs12.out; have := zc13.out; have := zc14.out; have := zs15.out; have := zc15.out; have := zs16.out; have := zc16.out; omega)
  replace hcx1_0 := cell_kept hcx1_0 hk (fun h3_ => by have h4_ : W6.heap.size ≤ w6.heap.size ∧ w6.heap.size < w6.heap.size := h3_; clear h3_; have := zlaA.out; have := zlaB.out; have := zs1.out; have := zc1.out; have := zs2.out; have := zc2.out; have := zs3.out; have := zlo3.out; have := zhi3.out; have := zge3.out; have := znb3.out; have := zbl3.out; have := zT3.out; have := zlw0.out; have := zhz4.out; have := zs4.out; have := zs5.out; have := zc5.out; have := zlx0.out; have := zs6.out; have := zc6.out; have := zlx1.out; have := zs7.out; have := zc7.out; have := zlg0.out; have := zs8.out; have := zc8.out; have := zs9.out; have := zc10.out; have := zc11.out; have := zs12.out; have := zc13.out; have := zc14.out; have := zs15.out; have := zc15.out; have := zs16.out; have := zc16.out; omega)
  replace hcx1_1 := cell_kept hcx1_1 hk (fun h3_ => by have h4_ : W6.heap.size ≤ w6.heap.size ∧ w6.heap.size < w6.heap.size := h3_; clear h3_; have := zlaA.out; have := zlaB.out; have := zs1.out; have := zc1.out; have := zs2.out; have := zc2.out; have := zs3.out; have := zlo3.out; have := zhi3.out; have := zge3.out; have := znb3.out; have := zbl3.out; have := zT3.out; have := zlw0.out; have := zhz4.out; have := zs4.out; have := zs5.out; have := zc5.out; have := zlx0.out; have := zs6.out; have := zc6.out; have := zlx1.out; have := zs7.out; have := zc7.out; have := zlg0.out; have := zs8.out; have := zc8.out; have := zs9.out; have := zc10.out; have := zc11.out; have := zs12.out; have := zc13.out; have := zc14.out; have := zs15.out; have := zc15.out; have := zs16.out; have := zc16.out; omega)
  replace hcg0_0 := cell_kept hcg0_0 hk (fun h3_ => by have h4_ : W6.heap.size ≤ w7.heap.size ∧ w7.heap.size < w6.heap.size := h3_; clear h3_; have := zlaA.out; have := zlaB.out; have := zs1.out; have := zc1.out; have := zs2.out; have := zc2.out; have := zs3.out; have := zlo3.out; have := zhi3.out; have := zge3.out; have := znb3.out; have := zbl3.out; have := zT3.out; have := zlw0.out; have := zhz4.out; have := zs4.out; have := zs5.out; have := zc5.out; have := zlx0.out; have := zs6.out; have := zc6.out; have := zlx1.out; have := zs7.out; have := zc7.out; have := zlg0.out; have := zs8.out; have := zc8.out; have := zs9.out; have := zc10.out; have := zc11.out; have := zs12.out; have := zc13.out; have := zc14.out; have := zs15.out; have := zc15.out; have := zs16.out; have := zc16.out; omega)
  replace hcg0_1 := cell_kept hcg0_1 hk (fun h3_ => by have h4_ : W6.heap.size ≤ w7.heap.size ∧ w7.heap.size < w6.heap.size := h3_; clear h3_; have := zlaA.out; have := zlaB.out; have := zs1.out; have := zc1.out; have := zs2.out; have := zc2.out; have := zs3.out; have := zlo3.out; have := zhi3.out; have := zge3.out; have := znb3.out; have := zbl3.out; have := zT3.out; have := zlw0.out; have := zhz4.out; have := zs4.out; have := zs5.out; have := zc5.out; have := zlx0.out; have := zs6.out; have := zc6.out; have := zlx1.out; have := zs7.out; have := zc7.out; have := zlg0.out; have := zs8.out; have := zc8.out; have := zs9.out; have := zc10.out; have := zc11.out; have := zs12.out; have := zc13.out; have := zc14.out; have := zs15.out; have := zc15.out; have := zs16.out; have := zc16.out; omega)
  replace HO3_0 := HO3_0.kept hk (fun k_ h1_ h2_ h3_ => by have := zlaA.out; have := zlaB.out; have := zs1.out; have := zc1.out; have := zs2.out; have := zc2.out; have := zs3.out; have := zlo3.out; have := zhi3.out; have := zge3.out; have := znb3.out; have := zbl3.out; have := zT3.out; have := zlw0.out; have := zhz4.out; have := zs4.out; have := zs5.out; have := zc5.out; have := zlx0.out; have := zs6.out; have := zc6.out; have := zlx1.out; have := zs7.out; have := zc7.out; have := zlg0.out; have := zs8.out; have := zc8.out; have := zs9.out; have := zc10.out; have := zc11.out; have := zs12.out; have := zc13.out; have := zc14.out; have := zs15.out; have := zc15.out; have := zs16.out; have := zc16.out; obtain ⟨h4_, h5_⟩ := h3_; omega)
  replace HO3_1 := HO3_1.kept hk (fun k_ h1_ h2_ h3_ => by have := zlaA.out; have := zlaB.out; have := zs1.out; have := zc1.out; have := zs2.out; have := zc2.out; have := zs3.out; have := zlo3.out; have := zhi3.out; have := zge3.out; have := znb3.out; have := zbl3.out; have := zT3.out; have := zlw0.out; have := zhz4.out; have := zs4.out; have := zs5.out; have := zc5.out; have := zlx0.out; have := zs6.out; have := zc6.out; have := zlx1.out; have := zs7.out; have := zc7.out; have := zlg0.out; have := zs8.out; have := zc8.out; have := zs9.out; have := zc10.out; have := zc11.out; have := zs12.out; have := zc13.out; have := zc14.out; have := zs15.out; have := zc15.out; have := zs16.out; have := zc16.out; obtain ⟨h4_, h5_⟩ := h3_; omega)
  replace HO5_0 := HO5_0.kept hk (fun k_ h1_ h2_ h3_ => by have := zlaA.out; have := zlaB.out; have := zs1.out; have := zc1.out; have := zs2.out; have := zc2.out; have := zs3.out; have := zlo3.out; have := zhi3.out; have := zge3.out; have := znb3.out; have := zbl3.out; have := zT3.out; have := zlw0.out; have := zhz4.out; have := zs4.out; have := zs5.out; have := zc5.out; have := zlx0.out; have := zs6.out; have := zc6.out; have := zlx1.out; have := zs7.out; have := zc7.out; have := zlg0.out; have := zs8.out; have := zc8.out; have := zs9.out; have := zc10.out; have := zc11.out; have := zs12.out; have := zc13.out; have := zc14.out; have := zs15.out; have := zc15.out; have := zs16.out; have := zc16.out; obtain ⟨h4_, h5_⟩ := h3_; omega)
  replace HO5_1 := HO5_1.kept hk (fun k_ h1_ h2_ h3_ => by have := zlaA.out; have := zlaB.out; have := zs1.out; have := zc1.out; have := zs2.out; have := zc2.out; have := zs3.out; have := zlo3.out; have := zhi3.out; have := zge3.out; have := znb3.out; have := zbl3.out; have := zT3.out; have := zlw0.out; have := zhz4.out; have := zs4.out; have := zs5.out; have := zc5.out; have := zlx0.out; have := zs6.out; have := zc6.out; have := zlx1.out; have := zs7.out; have := zc7.out; have := zlg0.out; have := zs8.out; have := zc8.out; have := zs9.out; have := zc10.out; have := zc11.out; have := zs12.out; have := zc13.out; have := zc14.out; have := zs15.out; have := zc15.out; have := zs16.out; have := zc16.out; obtain ⟨h4_, h5_⟩ := h3_; omega)
  replace HO7_0 := HO7_0.kept hk (fun k_ h1_ h2_ h3_ => by have := zlaA.out; have := zlaB.out; have := zs1.out; have := zc1.out; have := zs2.out; have := zc2.out; have := zs3.out; have := zlo3.out; have := zhi3.out; have := zge3.out; have := znb3.out; have := zbl3.out; have := zT3.out; have := zlw0.out; have := zhz4.out; have := zs4.out; have := zs5.out; have := zc5.out; have := zlx0.out; have := zs6.out; have := zc6.out; have := zlx1.out; have := zs7.out; have := zc7.out; have := zlg0.out; have := zs8.out; have := zc8.out; have := zs9.out; have := zc10.out; have := zc11.out; have := zs12.out; have := zc13.out; have := zc14.out; have := zs15.out; have := zc15.out; have := zs16.out; have := zc16.out; obtain ⟨h4_, h5_⟩ := h3_; omega)
  replace HO7_1 := HO7_1.kept hk (fun k_ h1_ h2_ h3_ => by have := zlaA.out; have := zlaB.out; have := zs1.out; have := zc1.out; have := zs2.out; have := zc2.out; have := zs3.out; have := zlo3.out; have := zhi3.out; have := zge3.out; have := znb3.out; have := zbl3.out; have := zT3.out; have := zlw0.out; have := zhz4.out; have := zs4.out; have := zs5.out; have := zc5.out; have := zlx0.out; have := zs6.out; have := zc6.out; have := zlx1.out; have := zs7.out; have := zc7.out; have := zlg0.out; have := zs8.out; have := zc8.out; have := zs9.out; have := zc10.out; have := zc11.out; have := zs12.out; have := zc13.out; have := zc14.out; have := zs15.out; have := zc15.out; have := zs16.out; have := zc16.out; obtain ⟨h4_, h5_⟩ := h3_; omega)
  replace HO10_0 := HO10_0.kept hk (fun k_ h1_ h2_ h3_ => by have := zlaA.out; have := zlaB.out; have := zs1.out; have := zc1.out; have := zs2.out; have := zc2.out; have := zs3.out; have := zlo3.out; have := zhi3.out; have := zge3.out; have := znb3.out; have := zbl3.out; have := zT3.out; have := zlw0.out; have := zhz4.out; have := zs4.out; have := zs5.out; have := zc5.out; have := zlx0.out; have := zs6.out; have := zc6.out; have := zlx1.out; have := zs7.out; have := zc7.out; have := zlg0.out; have := zs8.out; have := zc8.out; have := zs9.out; have := zc10.out; have := zc11.out; have := zs12.out; have := zc13.out; have := zc14.out; have := zs15.out; have := zc15.out; have := zs16.out; have := zc16.out; obtain ⟨h4_, h5_⟩ := h3_; omega)
  replace HO10_1 := HO10_1.kept hk (fun k_ h1_ h2_ h3_ => by have := zlaA.out; have := zlaB.out; have := zs1.out; have := zc1.out; have := zs2.out; have := zc2.out; have := zs3.out; have := zlo3.out; have := zhi3.out; have := zge3.out; have := znb3.out; have := zbl3.out; have := zT3.out; have := zlw0.out; have := zhz4.out; have := zs4.out; have := zs5.out; have := zc5.out; have := zlx0.out; have := zs6.out; have := zc6.out; have := zlx1.out; have := zs7.out; have := zc7.out; have := zlg0.out; have := zs8.out; have := zc8.out; have := zs9.out; have := zc10.out; have := zc11.out; have := zs12.out; have := zc13.out; have := zc14.out; have := zs15.out; have := zc15.out; have := zs16.out; have := zc16.out; obtain ⟨h4_, h5_⟩ := h3_; omega)
  replace HO13_0 := HO13_0.kept hk (fun k_ h1_ h2_ h3_ => by have := zlaA.out; have := zlaB.out; have := zs1.out; have := zc1.out; have := zs2.out; have := zc2.out; have := zs3.out; have := zlo3.out; have := zhi3.out; have := zge3.out; have := znb3.out; have := zbl3.out; have := zT3.out; have := zlw0.out; have := zhz4.out; have := zs4.out; have := zs5.out; have := zc5.out; have := zlx0.out; have := zs6.out; have := zc6.out; have := zlx1.out; have := zs7.out; have := zc7.out; have := zlg0.out; have := zs8.out; have := zc8.out; have := zs9.out; have := zc10.out; have := zc11.out; have := zs12.out; have := zc13.out; have := zc14.out; have := zs15.out; have := zc15.out; have := zs16.out; have := zc16.out; obtain ⟨h4_, h5_⟩ := h3_; omega)
  replace HO13_1 := HO13_1.kept hk (fun k_ h1_ h2_ h3_ => by have := zlaA.out; have := zlaB.out; have := zs1.out; have := zc1.out; have := zs2.out; have := zc2.out; have := zs3.out; have := zlo3.out; have := zhi3.out; have := zge3.out; have := znb3.out; have := zbl3.out; have := zT3.out; have := zlw0.out; have := zhz4.out; have := zs4.out; have := zs5.out; have := zc5.out; have := zlx0.out; have := zs6.out; have := zc6.out; have := zlx1.out; have := zs7.out; have := zc7.out; have := zlg0.out; have := zs8.out; have := zc8.out; have := zs9.out; have := zc10.out; have := zc11.out; have := zs12.out; have := zc13.out; have := zc14.out; have := zs15.out; have := zc15.out; have := zs16.out; have := zc16.out; obtain ⟨h4_, h5_⟩ := h3_; omega)
  replace hlaA : w.heap.size < w16.heap.size := Nat.lt_of_lt_of_le hlaA hk.1
  replace hlaB : w.heap.size + 1 < w16.heap.size := Nat.lt_of_lt_of_le hlaB hk.1
  replace hlw0 : bqq5100 < w16.heap.size := Nat.lt_of_lt_of_le hlw0 hk.1
  replace hlx0 : w5.heap.size < w16.heap.size := Nat.lt_of_lt_of_le hlx0 hk.1
  replace hlx1 : w6.heap.size < w16.heap.size := Nat.lt_of_lt_of_le hlx1 hk.1
  replace hlg0 : w7.heap.size < w16.heap.size := Nat.lt_of_lt_of_le hlg0 hk.1
  replace HB := Aside0.mk hB
  clear hB hk
  go_wp2_with fail
  refine calls_named fun W17 hW => ?_
  have hs : Below w16.heap.size w16 W17 := by rw [hW]; repeat (first | exact Below.refl _ _ | apply below_alloc | apply below_drew1 | apply pw_below_drewN)
  clear hW
  replace hcaA_0 := pw_cell_below hs hcaA_0
  replace hcaA_1 := pw_cell_below hs hcaA_1
  replace hcaB_0 := pw_cell_below hs hcaB_0
  replace hcaB_1 := pw_cell_below hs hcaB_1
  replace hcw0_0 := pw_cell_below hs hcw0_0
  replace hcw0_1 := pw_cell_below hs hcw0_1
  replace hcx0_0 := pw_cell_below hs hcx0_0
  replace hcx0_1 := pw_cell_below hs hcx0_1
  replace hcx1_0 := pw_cell_below hs hcx1_0
  replace hcx1_1 := pw_cell_below hs hcx1_1
  replace hcg0_0 := pw_cell_below hs hcg0_0
  replace hcg0_1 := pw_cell_below hs hcg0_1
  replace HO3_0 := HO3_0.below hs
  replace HO3_1 := HO3_1.below hs
  replace HO5_0 := HO5_0.below hs
  replace HO5_1 := HO5_1.below hs
  replace HO6_0 := HO6_0.below hs
  replace HO6_1 := HO6_1.below hs
  replace HO7_0 := HO7_0.below hs
  replace HO7_1 := HO7_1.below hs
  replace HO10_0 := HO10_0.below hs
  replace HO10_1 := HO10_1.below hs
  replace HO13_0 := HO13_0.below hs
  replace HO13_1 := HO13_1.below hs
  replace hlaA : w.heap.size < W17.heap.size := Nat.lt_of_lt_of_le hlaA hs.size
  replace hlaB : w.heap.size + 1 < W17.heap.size := Nat.lt_of_lt_of_le hlaB hs.size
  replace hlw0 : bqq5100 < W17.heap.size := Nat.lt_of_lt_of_le hlw0 hs.size
  replace hlx0 : w5.heap.size < W17.heap.size := Nat.lt_of_lt_of_le hlx0 hs.size
  replace hlx1 : w6.heap.size < W17.heap.size := Nat.lt_of_lt_of_le hlx1 hs.size
  replace hlg0 : w7.heap.size < W17.heap.size := Nat.lt_of_lt_of_le hlg0 hs.size
  replace HB := Aside0.mk (below_on HB.out HB.out.size hs)
  have zs17 := Aside0.mk hs.size
  clear hs
  obtain ⟨kk17, e_17⟩ := E9.out
  replace e_17 := Aside0.mk e_17
  refine (laws_eqStripe.calls kk17 _ _ r_0 _ _ r_1 _ _ r_0 _ _ r_1 true W17 HO7_0.C HO7_0.cap HO7_1.C HO7_1.cap HO3_0.C HO3_0.cap HO3_1.C HO3_1.cap e_17.out).mono ?_
  rintro e w17 ⟨rfl, hb⟩
  clear e_17
  have zc17 := Aside0.mk hb.size
  replace hcaA_0 := pw_cell_below hb hcaA_0
  replace hcaA_1 := pw_cell_below hb hcaA_1
  replace hcaB_0 := pw_cell_below hb hcaB_0
  replace hcaB_1 := pw_cell_below hb hcaB_1
  replace hcw0_0 := pw_cell_below hb hcw0_0
  replace hcw0_1 := pw_cell_below hb hcw0_1
  replace hcx0_0 := pw_cell_below hb hcx0_0
  replace hcx0_1 := pw_cell_below hb hcx0_1
  replace hcx1_0 := pw_cell_below hb hcx1_0
  replace hcx1_1 := pw_cell_below hb hcx1_1
  replace hcg0_0 := pw_cell_below hb hcg0_0
  replace hcg0_1 := pw_cell_below hb hcg0_1
  replace HO3_0 := HO3_0.below hb
  replace HO3_1 := HO3_1.below hb
  replace HO5_0 := HO5_0.below hb
  replace HO5_1 := HO5_1.below hb
  replace HO6_0 := HO6_0.below hb
  replace HO6_1 := HO6_1.below hb
  replace HO7_0 := HO7_0.below hb
  replace HO7_1 := HO7_1.below hb
  replace HO10_0 := HO10_0.below hb
  replace HO10_1 := HO10_1.below hb
  replace HO13_0 := HO13_0.below hb
  replace HO13_1 := HO13_1.below hb
  replace hlaA : w.heap.size < w17.heap.size := Nat.lt_of_lt_of_le hlaA hb.size
  replace hlaB : w.heap.size + 1 < w17.heap.size := Nat.lt_of_lt_of_le hlaB hb.size
  replace hlw0 : bqq5100 < w17.heap.size := Nat.lt_of_lt_of_le hlw0 hb.size
  replace hlx0 : w5.heap.size < w17.heap.size := Nat.lt_of_lt_of_le hlx0 hb.size
  replace hlx1 : w6.heap.size < w17.heap.size := Nat.lt_of_lt_of_le hlx1 hb.size
  replace hlg0 : w7.heap.size < w17.heap.size := Nat.lt_of_lt_of_le hlg0 hb.size
  replace HB := Aside0.mk (below_on HB.out HB.out.size hb)
  clear hb
  go_wp2_with fail
  refine calls_named fun W18 hW => ?_
  have hs : Below w17.heap.size w17 W18 := by rw [hW]; repeat (first | exact Below.refl _ _ | apply below_alloc | apply below_drew1 | apply pw_below_drewN)
  clear hW
  replace hcaA_0 := pw_cell_below hs hcaA_0
  replace hcaA_1 := pw_cell_below hs hcaA_1
  replace hcaB_0 := pw_cell_below hs hcaB_0
  replace hcaB_1 := pw_cell_below hs hcaB_1
  replace hcw0_0 := pw_cell_below hs hcw0_0
  replace hcw0_1 := pw_cell_below hs hcw0_1
  replace hcx0_0 := pw_cell_below hs hcx0_0
  replace hcx0_1 := pw_cell_below hs hcx0_1
  replace hcx1_0 := pw_cell_below hs hcx1_0
  replace hcx1_1 := pw_cell_below hs hcx1_1
  replace hcg0_0 := pw_cell_below hs hcg0_0
  replace hcg0_1 := pw_cell_below hs hcg0_1
  replace HO3_0 := HO3_0.below hs
  replace HO3_1 := HO3_1.below hs
  replace HO5_0 := HO5_0.below hs
  replace HO5_1 := HO5_1.below hs
  replace HO6_0 := HO6_0.below hs
  replace HO6_1 := HO6_1.below hs
  replace HO7_0 := HO7_0.below hs
  replace HO7_1 := HO7_1.below hs
  replace HO10_0 := HO10_0.below hs
  replace HO10_1 := HO10_1.below hs
  replace HO13_0 := HO13_0.below hs
  replace HO13_1 := HO13_1.below hs
  replace hlaA : w.heap.size < W18.heap.size := Nat.lt_of_lt_of_le hlaA hs.size
  replace hlaB : w.heap.size + 1 < W18.heap.size := Nat.lt_of_lt_of_le hlaB hs.size
  replace hlw0 : bqq5100 < W18.heap.size := Nat.lt_of_lt_of_le hlw0 hs.size
  replace hlx0 : w5.heap.size < W18.heap.size := Nat.lt_of_lt_of_le hlx0 hs.size
  replace hlx1 : w6.heap.size < W18.heap.size := Nat.lt_of_lt_of_le hlx1 hs.size
  replace hlg0 : w7.heap.size < W18.heap.size := Nat.lt_of_lt_of_le hlg0 hs.size
  replace HB := Aside0.mk (below_on HB.out HB.out.size hs)
  have zs18 := Aside0.mk hs.size
  clear hs
  obtain ⟨kk18, e_18⟩ := HMT2.out r_0 r_1 1 (by have := HT0.out; have := HT1.out; have := HT2.out; have := HT3.out; have := HT4.out; have := HT5.out; omega) (by have := HT0.out; have := HT1.out; have := HT2.out; have := HT3.out; have := HT4.out; have := HT5.out; omega)
  replace e_18 := Aside0.mk e_18
  refine (laws_markStripe.calls kk18 (fun k => some k = (.slice A7_0 r_0.length c7_0 : Value).ownBlock) _ r_0 (fun k => some k = (.slice A7_1 r_1.length c7_1 : Value).ownBlock) _ r_1 1 _ _ _ w W18 HB.out (HO7_0.tight rfl) (fun k_ h1_ h2_ => HD7_0.out k_ h1_ h2_) (HO7_1.tight rfl) (fun k_ h1_ h2_ => HD7_0.out k_ h2_ h1_) e_18.out).mono ?_
  rintro e w18 ⟨rfl, hS, hS2, hB, hk⟩
  clear e_18
  replace hk := kept_mono (P' := fun k => W7.heap.size ≤ k ∧ k < w7.heap.size) hk (fun k_ h1_ => h1_.elim (fun h2_ => HO7_0.inside h2_) (fun h2_ => HO7_1.inside h2_))
  replace HO7_0 := OwnR.marked2 rfl HO7_0 hS
  replace HO7_1 := OwnR.marked2 rfl HO7_1 hS2
  clear hS hS2
  have zc18 := Aside0.mk hk.1
  replace hcaA_0 := cell_kept hcaA_0 hk (fun h3_ => by have h4_ : W7.heap.size ≤ w.heap.size ∧ w.heap.size < w7.heap.size := h3_; clear h3_; have := zlaA.out; have := zlaB.out; have := zs1.out; have := zc1.out; have := zs2.out; have := zc2.out; have := zs3.out; have := zlo3.out; have := zhi3.out; have := zge3.out; have := znb3.out; have := zbl3.out; have := zT3.out; have := zlw0.out; have := zhz4.out; have := zs4.out; have := zs5.out; have := zc5.out; have := zlx0.out; have := zs6.out; have := zc6.out; have := zlx1.out; have := zs7.out; have := zc7.out; have := zlg0.out; have := zs8.out; have := zc8.out; have := zs9.out; have := zc10.out; have := zc11.out; have := zs12.out; have := zc13.out; have := zc14.out; have := zs15.out; have := zc15.out; have := zs16.out; have := zc16.out; have := zs17.out; have := zc17.out; have := zs18.out; have := zc18.out; omega)
  replace hcaA_1 := cell_kept hcaA_1 hk (fun h3_ => by have h4_ : W7.heap.size ≤ w.heap.size ∧ w.heap.size < w7.heap.size := h3_; clear h3_; have := zlaA.out; have := zlaB.out; have := zs1.out; have := zc1.out; have := zs2.out; have := zc2.out; have := zs3.out; have := zlo3.out; have := zhi3.out; have := zge3.out; have := znb3.out; have := zbl3.out; have := zT3.out; have := zlw0.out; have := zhz4.out; have := zs4.out; have := zs5.out; have := zc5.out; have := zlx0.out; have := zs6.out; have := zc6.out; have := zlx1.out; have := zs7.out; have := zc7.out; have := zlg0.out; have := zs8.out; have := zc8.out; have := zs9.out; have := zc10.out; have := zc11.out; have := zs12.out; have := zc13.out; have := zc14.out; have := zs15.out; have := zc15.out; have := zs16.out; have := zc16.out; have := zs17.out; have := zc17.out; have := zs18.out; have := zc18.out; omega)
  replace hcaB_0 := cell_kept hcaB_0 hk (fun h3_ => by have h4_ : W7.heap.size ≤ w.heap.size + 1 ∧ w.heap.size + 1 < w7.heap.size := h3_; clear h3_; have := zlaA.out; have := zlaB.out; have := zs1.out; have := zc1.out; have := zs2.out; have := zc2.out; have := zs3.out; have := zlo3.out; have := zhi3.out; have := zge3.out; have := znb3.out; have := zbl3.out; have := zT3.out; have := zlw0.out; have := zhz4.out; have := zs4.out; have := zs5.out; have := zc5.out; have := zlx0.out; have := zs6.out; have := zc6.out; have := zlx1.out; have := zs7.out; have := zc7.out; have := zlg0.out; have := zs8.out; have := zc8.out; have := zs9.out; have := zc10.out; have := zc11.out; have := zs12.out; have := zc13.out; have := zc14.out; have := zs15.out; have := zc15.out; have := zs16.out; have := zc16.out; have := zs17.out; have := zc17.out; have := zs18.out; have := zc18.out; omega)
  replace hcaB_1 := cell_kept hcaB_1 hk (fun h3_ => by have h4_ : W7.heap.size ≤ w.heap.size + 1 ∧ w.heap.size + 1 < w7.heap.size := h3_; clear h3_; have := zlaA.out; have := zlaB.out; have := zs1.out; have := zc1.out; have := zs2.out; have := zc2.out; have := zs3.out; have := zlo3.out; have := zhi3.out; have := zge3.out; have := znb3.out; have := zbl3.out; have := zT3.out; have := zlw0.out; have := zhz4.out; have := zs4.out; have := zs5.out; have := zc5.out; have := zlx0.out; have := zs6.out; have := zc6.out; have := zlx1.out; have := zs7.out; have := zc7.out; have := zlg0.out; have := zs8.out; have := zc8.out; have := zs9.out; have := zc10.out; have := zc11.out; have := zs12.out; have := zc13.out; have := zc14.out; have := zs15.out; have := zc15.out; have := zs16.out; have := zc16.out; have := zs17.out; have := zc17.out; have := zs18.out; have := zc18.out; omega)
  replace hcw0_0 := cell_kept hcw0_0 hk (fun h3_ => by have h4_ : W7.heap.size ≤ bqq5100 ∧ bqq5100 < w7.heap.size := h3_; clear h3_; have := zlaA.out; have := zlaB.out; have := zs1.out; have := zc1.out; have := zs2.out; have := zc2.out; have := zs3.out; have := zlo3.out; have := zhi3.out; have := zge3.out; have := znb3.out; have := zbl3.out; have := zT3.out; have := zlw0.out; have := zhz4.out; have := zs4.out; have := zs5.out; have := zc5.out; have := zlx0.out; have := zs6.out; have := zc6.out; have := zlx1.out; have := zs7.out; have := zc7.out; have := zlg0.out; have := zs8.out; have := zc8.out; have := zs9.out; have := zc10.out; have := zc11.out; have := zs12.out; have := zc13.out; have := zc14.out; have := zs15.out; have := zc15.out; have := zs16.out; have := zc16.out; have := zs17.out; have := zc17.out; have := zs18.out; have := zc18.out; omega)
  replace hcw0_1 := cell_kept hcw0_1 hk (fun h3_ => by have h4_ : W7.heap.size ≤ bqq5100 ∧ bqq5100 < w7.heap.size := h3_; clear h3_; have := zlaA.out; have := zlaB.out; have := zs1.out; have := zc1.out; have := zs2.out; have := zc2.out; have := zs3.out; have := zlo3.out; have := zhi3.out; have := zge3.out; have := znb3.out; have := zbl3.out; have := zT3.out; have := zlw0.out; have := zhz4.out; have := zs4.out; have := zs5.out; have := zc5.out; have := zlx0.out; have := zs6.out; have := zc6.out; have := zlx1.out; have := zs7.out; have := zc7.out; have := zlg0.out; have := zs8.out; have := zc8.out; have := zs9.out; have := zc10.out; have := zc11.out; have := zs12.out; have := zc13.out; have := zc14.out; have := zs15.out; have := zc15.out; have := zs16.out; have := zc16.out; have := zs17.out; have := zc17.out; have := zs18.out; have := zc18.out; omega)
  replace hcx0_0 := cell_kept hcx0_0 hk (fun h3_ => by have h4_ : W7.heap.size ≤ w5.heap.size ∧ w5.heap.size < w7.heap.size := h3_; clear h3_; have := zlaA.out; have := zlaB.out; have := zs1.out; have := zc1.out; have := zs2.out; have := zc2.out; have := zs3.out; have := zlo3.out; have := zhi3.out; have := zge3.out; have := znb3.out; have := zbl3.out; have := zT3.out; have := zlw0.out; have := zhz4.out; have := zs4.out; have := zs5.out; have := zc5.out; have := zlx0.out; have := zs6.out; have := zc6.out; have := zlx1.out; have := zs7.out; have := zc7.out; have := zlg0.out; have := zs8.out; have := zc8.out; have := zs9.out; have := zc10.out; have := zc11.out; have := zs12.out; have := zc13.out; have := zc14.out; have := zs15.out; have := zc15.out; have := zs16.out; have := zc16.out; have := zs17.out; have := zc17.out; have := zs18.out; have := zc18.out; omega)
  replace hcx0_1 := cell_kept hcx0_1 hk (fun h3_ => by have h4_ : W7.heap.size ≤ w5.heap.size ∧ w5.heap.size < w7.heap.size := h3_; clear h3_; have := zlaA.out; have := zlaB.out; have := zs1.out; have := zc1.out; have := zs2.out; have := zc2.out; have := zs3.out; have := zlo3.out; have := zhi3.out; have := zge3.out; have := znb3.out; have := zbl3.out; have := zT3.out; have := zlw0.out; have := zhz4.out; have := zs4.out; have := zs5.out; have := zc5.out; have := zlx0.out; have := zs6.out; have := zc6.out; have := zlx1.out; have := zs7.out; have := zc7.out; have := zlg0.out; have := zs8.out; have := zc8.out; have := zs9.out; have := zc10.out; have := zc11.out; have := zs12.out; have := zc13.out; have := zc14.out; have := zs15.out; have := zc15.out; have := zs16.out; have := zc16.out; have := zs17.out; have := zc17.out; have := zs18.out; have := zc18.out; omega)
  replace hcx1_0 := cell_kept hcx1_0 hk (fun h3_ => by have h4_ : W7.heap.size ≤ w6.heap.size ∧ w6.heap.size < w7.heap.size := h3_; clear h3_; have := zlaA.out; have := zlaB.out; have := zs1.out; have := zc1.out; have := zs2.out; have := zc2.out; have := zs3.out; have := zlo3.out; have := zhi3.out; have := zge3.out; have := znb3.out; have := zbl3.out; have := zT3.out; have := zlw0.out; have := zhz4.out; have := zs4.out; have := zs5.out; have := zc5.out; have := zlx0.out; have := zs6.out; have := zc6.out; have := zlx1.out; have := zs7.out; have := zc7.out; have := zlg0.out; have := zs8.out; have := zc8.out; have := zs9.out; have := zc10.out; have := zc11.out; have := zs12.out; have := zc13.out; have := zc14.out; have := zs15.out; have := zc15.out; have := zs16.out; have := zc16.out; have := zs17.out; have := zc17.out; have := zs18.out; have := zc18.out; omega)
  replace hcx1_1 := cell_kept hcx1_1 hk (fun h3_ => by have h4_ : W7.heap.size ≤ w6.heap.size ∧ w6.heap.size < w7.heap.size := h3_; clear h3_; have := zlaA.out; have := zlaB.out; have := zs1.out; have := zc1.out; have := zs2.out; have := zc2.out; have := zs3.out; have := zlo3.out; have := zhi3.out; have := zge3.out; have := znb3.out; have := zbl3.out; have := zT3.out; have := zlw0.out; have := zhz4.out; have := zs4.out; have := zs5.out; have := zc5.out; have := zlx0.out; have := zs6.out; have := zc6.out; have := zlx1.out; have := zs7.out; have := zc7.out; have := zlg0.out; have := zs8.out; have := zc8.out; have := zs9.out; have := zc10.out; have := zc11.out; have := zs12.out; have := zc13.out; have := zc14.out; have := zs15.out; have := zc15.out; have := zs16.out; have := zc16.out; have := zs17.out; have := zc17.out; have := zs18.out; have := zc18.out; omega)
  replace hcg0_0 := cell_kept hcg0_0 hk (fun h3_ => by have h4_ : W7.heap.size ≤ w7.heap.size ∧ w7.heap.size < w7.heap.size := h3_; clear h3_; have := zlaA.out; have := zlaB.out; have := zs1.out; have := zc1.out; have := zs2.out; have := zc2.out; have := zs3.out; have := zlo3.out; have := zhi3.out; have := zge3.out; have := znb3.out; have := zbl3.out; have := zT3.out; have := zlw0.out; have := zhz4.out; have := zs4.out; have := zs5.out; have := zc5.out; have := zlx0.out; have := zs6.out; have := zc6.out; have := zlx1.out; have := zs7.out; have := zc7.out; have := zlg0.out; have := zs8.out; have := zc8.out; have := zs9.out; have := zc10.out; have := zc11.out; have := zs12.out; have := zc13.out; have := zc14.out; have := zs15.out; have := zc15.out; have := zs16.out; have := zc16.out; have := zs17.out; have := zc17.out; have := zs18.out; have := zc18.out; omega)
  replace hcg0_1 := cell_kept hcg0_1 hk (fun h3_ => by have h4_ : W7.heap.size ≤ w7.heap.size ∧ w7.heap.size < w7.heap.size := h3_; clear h3_; have := zlaA.out; have := zlaB.out; have := zs1.out; have := zc1.out; have := zs2.out; have := zc2.out; have := zs3.out; have := zlo3.out; have := zhi3.out; have := zge3.out; have := znb3.out; have := zbl3.out; have := zT3.out; have := zlw0.out; have := zhz4.out; have := zs4.out; have := zs5.out; have := zc5.out; have := zlx0.out; have := zs6.out; have := zc6.out; have := zlx1.out; have := zs7.out; have := zc7.out; have := zlg0.out; have := zs8.out; have := zc8.out; have := zs9.out; have := zc10.out; have := zc11.out; have := zs12.out; have := zc13.out; have := zc14.out; have := zs15.out; have := zc15.out; have := zs16.out; have := zc16.out; have := zs17.out; have := zc17.out; have := zs18.out; have := zc18.out; omega)
  replace HO3_0 := HO3_0.kept hk (fun k_ h1_ h2_ h3_ => by have := zlaA.out; have := zlaB.out; have := zs1.out; have := zc1.out; have := zs2.out; have := zc2.out; have := zs3.out; have := zlo3.out; have := zhi3.out; have := zge3.out; have := znb3.out; have := zbl3.out; have := zT3.out; have := zlw0.out; have := zhz4.out; have := zs4.out; have := zs5.out; have := zc5.out; have := zlx0.out; have := zs6.out; have := zc6.out; have := zlx1.out; have := zs7.out; have := zc7.out; have := zlg0.out; have := zs8.out; have := zc8.out; have := zs9.out; have := zc10.out; have := zc11.out; have := zs12.out; have := zc13.out; have := zc14.out; have := zs15.out; have := zc15.out; have := zs16.out; have := zc16.out; have := zs17.out; have := zc17.out; have := zs18.out; have := zc18.out; obtain ⟨h4_, h5_⟩ := h3_; omega)
  replace HO3_1 := HO3_1.kept hk (fun k_ h1_ h2_ h3_ => by have := zlaA.out; have := zlaB.out; have := zs1.out; have := zc1.out; have := zs2.out; have := zc2.out; have := zs3.out; have := zlo3.out; have := zhi3.out; have := zge3.out; have := znb3.out; have := zbl3.out; have := zT3.out; have := zlw0.out; have := zhz4.out; have := zs4.out; have := zs5.out; have := zc5.out; have := zlx0.out; have := zs6.out; have := zc6.out; have := zlx1.out; have := zs7.out; have := zc7.out; have := zlg0.out; have := zs8.out; have := zc8.out; have := zs9.out; have := zc10.out; have := zc11.out; have := zs12.out; have := zc13.out; have := zc14.out; have := zs15.out; have := zc15.out; have := zs16.out; have := zc16.out; have := zs17.out; have := zc17.out; have := zs18.out; have := zc18.out; obtain ⟨h4_, h5_⟩ := h3_; omega)
  replace HO5_0 := HO5_0.kept hk (fun k_ h1_ h2_ h3_ => by have := zlaA.out; have := zlaB.out; have := zs1.out; have := zc1.out; have := zs2.out; have := zc2.out; have := zs3.out; have := zlo3.out; have := zhi3.out; have := zge3.out; have := znb3.out; have := zbl3.out; have := zT3.out; have := zlw0.out; have := zhz4.out; have := zs4.out; have := zs5.out; have := zc5.out; have := zlx0.out; have := zs6.out; have := zc6.out; have := zlx1.out; have := zs7.out; have := zc7.out; have := zlg0.out; have := zs8.out; have := zc8.out; have := zs9.out; have := zc10.out; have := zc11.out; have := zs12.out; have := zc13.out; have := zc14.out; have := zs15.out; have := zc15.out; have := zs16.out; have := zc16.out; have := zs17.out; have := zc17.out; have := zs18.out; have := zc18.out; obtain ⟨h4_, h5_⟩ := h3_; omega)
  replace HO5_1 := HO5_1.kept hk (fun k_ h1_ h2_ h3_ => by have := zlaA.out; have := zlaB.out; have := zs1.out; have := zc1.out; have := zs2.out; have := zc2.out; have := zs3.out; have := zlo3.out; have := zhi3.out; have := zge3.out; have := znb3.out; have := zbl3.out; have := zT3.out; have := zlw0.out; have := zhz4.out; have := zs4.out; have := zs5.out; have := zc5.out; have := zlx0.out; have := zs6.out; have := zc6.out; have := zlx1.out; have := zs7.out; have := zc7.out; have := zlg0.out; have := zs8.out; have := zc8.out; have := zs9.out; have := zc10.out; have := zc11.out; have := zs12.out; have := zc13.out; have := zc14.out; have := zs15.out; have := zc15.out; have := zs16.out; have := zc16.out; have := zs17.out; have := zc17.out; have := zs18.out; have := zc18.out; obtain ⟨h4_, h5_⟩ := h3_; omega)
  replace HO6_0 := HO6_0.kept hk (fun k_ h1_ h2_ h3_ => by have := zlaA.out; have := zlaB.out; have := zs1.out; have := zc1.out; have := zs2.out; have := zc2.out; have := zs3.out; have := zlo3.out; have := zhi3.out; have := zge3.out; have := znb3.out; have := zbl3.out; have := zT3.out; have := zlw0.out; have := zhz4.out; have := zs4.out; have := zs5.out; have := zc5.out; have := zlx0.out; have := zs6.out; have := zc6.out; have := zlx1.out; have := zs7.out; have := zc7.out; have := zlg0.out; have := zs8.out; have := zc8.out; have := zs9.out; have := zc10.out; have := zc11.out; have := zs12.out; have := zc13.out; have := zc14.out; have := zs15.out; have := zc15.out; have := zs16.out; have := zc16.out; have := zs17.out; have := zc17.out; have := zs18.out; have := zc18.out; obtain ⟨h4_, h5_⟩ := h3_; omega)
  replace HO6_1 := HO6_1.kept hk (fun k_ h1_ h2_ h3_ => by have := zlaA.out; have := zlaB.out; have := zs1.out; have := zc1.out; have := zs2.out; have := zc2.out; have := zs3.out; have := zlo3.out; have := zhi3.out; have := zge3.out; have := znb3.out; have := zbl3.out; have := zT3.out; have := zlw0.out; have := zhz4.out; have := zs4.out; have := zs5.out; have := zc5.out; have := zlx0.out; have := zs6.out; have := zc6.out; have := zlx1.out; have := zs7.out; have := zc7.out; have := zlg0.out; have := zs8.out; have := zc8.out; have := zs9.out; have := zc10.out; have := zc11.out; have := zs12.out; have := zc13.out; have := zc14.out; have := zs15.out; have := zc15.out; have := zs16.out; have := zc16.out; have := zs17.out; have := zc17.out; have := zs18.out; have := zc18.out; obtain ⟨h4_, h5_⟩ := h3_; omega)
  replace HO10_0 := HO10_0.kept hk (fun k_ h1_ h2_ h3_ => by have := zlaA.out; have := zlaB.out; have := zs1.out; have := zc1.out; have := zs2.out; have := zc2.out; have := zs3.out; have := zlo3.out; have := zhi3.out; have := zge3.out; have := znb3.out; have := zbl3.out; have := zT3.out; have := zlw0.out; have := zhz4.out; have := zs4.out; have := zs5.out; have := zc5.out; have := zlx0.out; have := zs6.out; have := zc6.out; have := zlx1.out; have := zs7.out; have := zc7.out; have := zlg0.out; have := zs8.out; have := zc8.out; have := zs9.out; have := zc10.out; have := zc11.out; have := zs12.out; have := zc13.out; have := zc14.out; have := zs15.out; have := zc15.out; have := zs16.out; have := zc16.out; have := zs17.out; have := zc17.out; have := zs18.out; have := zc18.out; obtain ⟨h4_, h5_⟩ := h3_; omega)
  replace HO10_1 := HO10_1.kept hk (fun k_ h1_ h2_ h3_ => by have := zlaA.out; have := zlaB.out; have := zs1.out; have := zc1.out; have := zs2.out; have := zc2.out; have := zs3.out; have := zlo3.out; have := zhi3.out; have := zge3.out; have := znb3.out; have := zbl3.out; have := zT3.out; have := zlw0.out; have := zhz4.out; have := zs4.out; have := zs5.out; have := zc5.out; have := zlx0.out; have := zs6.out; have := zc6.out; have := zlx1.out; have := zs7.out; have := zc7.out; have := zlg0.out; have := zs8.out; have := zc8.out; have := zs9.out; have := zc10.out; have := zc11.out; have := zs12.out; have := zc13.out; have := zc14.out; have := zs15.out; have := zc15.out; have := zs16.out; have := zc16.out; have := zs17.out; have := zc17.out; have := zs18.out; have := zc18.out; obtain ⟨h4_, h5_⟩ := h3_; omega)
  replace HO13_0 := HO13_0.kept hk (fun k_ h1_ h2_ h3_ => by have := zlaA.out; have := zlaB.out; have := zs1.out; have := zc1.out; have := zs2.out; have := zc2.out; have := zs3.out; have := zlo3.out; have := zhi3.out; have := zge3.out; have := znb3.out; have := zbl3.out; have := zT3.out; have := zlw0.out; have := zhz4.out; have := zs4.out; have := zs5.out; have := zc5.out; have := zlx0.out; have := zs6.out; have := zc6.out; have := zlx1.out; have := zs7.out; have := zc7.out; have := zlg0.out; have := zs8.out; have := zc8.out; have := zs9.out; have := zc10.out; have := zc11.out; have := zs12.out; have := zc13.out; have := zc14.out; have := zs15.out; have := zc15.out; have := zs16.out; have := zc16.out; have := zs17.out; have := zc17.out; have := zs18.out; have := zc18.out; obtain ⟨h4_, h5_⟩ := h3_; omega)
  replace HO13_1 := HO13_1.kept hk (fun k_ h1_ h2_ h3_ => by have := zlaA.out; have := zlaB.out; have := zs1.out; have := zc1.out; have := zs2.out; have := zc2.out; have := zs3.out; have := zlo3.out; have := zhi3.out; have := zge3.out; have := znb3.out; have := zbl3.out; have := zT3.out; have := zlw0.out; have := zhz4.out; have := zs4.out; have := zs5.out; have := zc5.out; have := zlx0.out; have := zs6.out; have := zc6.out; have := zlx1.out; have := zs7.out; have := zc7.out; have := zlg0.out; have := zs8.out; have := zc8.out; have := zs9.out; have := zc10.out; have := zc11.out; have := zs12.out; have := zc13.out; have := zc14.out; have := zs15.out; have := zc15.out; have := zs16.out; have := zc16.out; have := zs17.out; have := zc17.out; have := zs18.out; have := zc18.out; obtain ⟨h4_, h5_⟩ := h3_; omega)
  replace hlaA : w.heap.size < w18.heap.size := Nat.lt_of_lt_of_le hlaA hk.1
  replace hlaB : w.heap.size + 1 < w18.heap.size := Nat.lt_of_lt_of_le hlaB hk.1
  replace hlw0 : bqq5100 < w18.heap.size := Nat.lt_of_lt_of_le hlw0 hk.1
  replace hlx0 : w5.heap.size < w18.heap.size := Nat.lt_of_lt_of_le hlx0 hk.1
  replace hlx1 : w6.heap.size < w18.heap.size := Nat.lt_of_lt_of_le hlx1 hk.1
  replace hlg0 : w7.heap.size < w18.heap.size := Nat.lt_of_lt_of_le hlg0 hk.1
  replace HB := Aside0.mk hB
  clear hB hk
  go_wp2_with fail
  refine calls_named fun W19 hW => ?_
  have hs : Below w18.heap.size w18 W19 := by rw [hW]; repeat (first | exact Below.refl _ _ | apply below_alloc | apply below_drew1 | apply pw_below_drewN)
  clear hW
  replace hcaA_0 := pw_cell_below hs hcaA_0
  replace hcaA_1 := pw_cell_below hs hcaA_1
  replace hcaB_0 := pw_cell_below hs hcaB_0
  replace hcaB_1 := pw_cell_below hs hcaB_1
  replace hcw0_0 := pw_cell_below hs hcw0_0
  replace hcw0_1 := pw_cell_below hs hcw0_1
  replace hcx0_0 := pw_cell_below hs hcx0_0
  replace hcx0_1 := pw_cell_below hs hcx0_1
  replace hcx1_0 := pw_cell_below hs hcx1_0
  replace hcx1_1 := pw_cell_below hs hcx1_1
  replace hcg0_0 := pw_cell_below hs hcg0_0
  replace hcg0_1 := pw_cell_below hs hcg0_1
  replace HO3_0 := HO3_0.below hs
  replace HO3_1 := HO3_1.below hs
  replace HO5_0 := HO5_0.below hs
  replace HO5_1 := HO5_1.below hs
  replace HO6_0 := HO6_0.below hs
  replace HO6_1 := HO6_1.below hs
  replace HO7_0 := HO7_0.below hs
  replace HO7_1 := HO7_1.below hs
  replace HO10_0 := HO10_0.below hs
  replace HO10_1 := HO10_1.below hs
  replace HO13_0 := HO13_0.below hs
  replace HO13_1 := HO13_1.below hs
  replace hlaA : w.heap.size < W19.heap.size := Nat.lt_of_lt_of_le hlaA hs.size
  replace hlaB : w.heap.size + 1 < W19.heap.size := Nat.lt_of_lt_of_le hlaB hs.size
  replace hlw0 : bqq5100 < W19.heap.size := Nat.lt_of_lt_of_le hlw0 hs.size
  replace hlx0 : w5.heap.size < W19.heap.size := Nat.lt_of_lt_of_le hlx0 hs.size
  replace hlx1 : w6.heap.size < W19.heap.size := Nat.lt_of_lt_of_le hlx1 hs.size
  replace hlg0 : w7.heap.size < W19.heap.size := Nat.lt_of_lt_of_le hlg0 hs.size
  replace HB := Aside0.mk (below_on HB.out HB.out.size hs)
  have zs19 := Aside0.mk hs.size
  clear hs
  obtain ⟨kk19, e_19⟩ := E12.out
  replace e_19 := Aside0.mk e_19
  refine calls_of_args (args' := #[.agg #[.slice A7_0 (markTS 1 r_0.length).length c7_0, .slice A7_1 (markTS (1 + ((r_0.length : Nat) : Int)) r_1.length).length c7_1], .int .i64 1]) (by simp [markSS_length, markB_length, markI_length, markTS_length]) ?_
  refine (laws_heldStripe.calls kk19 _ _ (markTS 1 r_0.length) _ _ (markTS (1 + ((r_0.length : Nat) : Int)) r_1.length) 1 (1 + ((r_0.length : Nat) : Int) + ((r_1.length : Nat) : Int)) W19 HO7_0.C HO7_0.cap HO7_1.C HO7_1.cap e_19.out).mono ?_
  rintro e w19 ⟨rfl, hb⟩
  clear e_19
  have zc19 := Aside0.mk hb.size
  replace hcaA_0 := pw_cell_below hb hcaA_0
  replace hcaA_1 := pw_cell_below hb hcaA_1
  replace hcaB_0 := pw_cell_below hb hcaB_0
  replace hcaB_1 := pw_cell_below hb hcaB_1
  replace hcw0_0 := pw_cell_below hb hcw0_0
  replace hcw0_1 := pw_cell_below hb hcw0_1
  replace hcx0_0 := pw_cell_below hb hcx0_0
  replace hcx0_1 := pw_cell_below hb hcx0_1
  replace hcx1_0 := pw_cell_below hb hcx1_0
  replace hcx1_1 := pw_cell_below hb hcx1_1
  replace hcg0_0 := pw_cell_below hb hcg0_0
  replace hcg0_1 := pw_cell_below hb hcg0_1
  replace HO3_0 := HO3_0.below hb
  replace HO3_1 := HO3_1.below hb
  replace HO5_0 := HO5_0.below hb
  replace HO5_1 := HO5_1.below hb
  replace HO6_0 := HO6_0.below hb
  replace HO6_1 := HO6_1.below hb
  replace HO7_0 := HO7_0.below hb
  replace HO7_1 := HO7_1.below hb
  replace HO10_0 := HO10_0.below hb
  replace HO10_1 := HO10_1.below hb
  replace HO13_0 := HO13_0.below hb
  replace HO13_1 := HO13_1.below hb
  replace hlaA : w.heap.size < w19.heap.size := Nat.lt_of_lt_of_le hlaA hb.size
  replace hlaB : w.heap.size + 1 < w19.heap.size := Nat.lt_of_lt_of_le hlaB hb.size
  replace hlw0 : bqq5100 < w19.heap.size := Nat.lt_of_lt_of_le hlw0 hb.size
  replace hlx0 : w5.heap.size < w19.heap.size := Nat.lt_of_lt_of_le hlx0 hb.size
  replace hlx1 : w6.heap.size < w19.heap.size := Nat.lt_of_lt_of_le hlx1 hb.size
  replace hlg0 : w7.heap.size < w19.heap.size := Nat.lt_of_lt_of_le hlg0 hb.size
  replace HB := Aside0.mk (below_on HB.out HB.out.size hb)
  clear hb
  go_wp2_with fail
  have hd : Below w19.heap.size w19 w19.drew := below_drew1 (Below.refl _ _)
  refine start_ (n := 11) (S := fun w' => w'.cell? ⟨w.heap.size, 0, none⟩ = some (.slice A0_0 l0_0.length c0_0) ∧ w'.cell? ⟨w.heap.size, 1, none⟩ = some (.slice A0_1 l0_1.length c0_1) ∧ w'.cell? ⟨w.heap.size + 1, 0, none⟩ = some (.slice A1_0 l1_0.length c1_0) ∧ w'.cell? ⟨w.heap.size + 1, 1, none⟩ = some (.slice A1_1 l1_1.length c1_1)) (ds := [9]) #[false, false, false, false, false, false, false, false, false, false, false] (by kernel_rfl) rfl rfl ⟨pw_cell_below hd hcaA_0, pw_cell_below hd hcaA_1, pw_cell_below hd hcaB_0, pw_cell_below hd hcaB_1⟩ (fun hHeld => ?_)
  generalize w19.drew = W20 at hd hHeld ⊢
  have zs20 := Aside0.mk hd.size
  replace hcaA_0 := pw_cell_below hd hcaA_0
  replace hcaA_1 := pw_cell_below hd hcaA_1
  replace hcaB_0 := pw_cell_below hd hcaB_0
  replace hcaB_1 := pw_cell_below hd hcaB_1
  replace hcw0_0 := pw_cell_below hd hcw0_0
  replace hcw0_1 := pw_cell_below hd hcw0_1
  replace hcx0_0 := pw_cell_below hd hcx0_0
  replace hcx0_1 := pw_cell_below hd hcx0_1
  replace hcx1_0 := pw_cell_below hd hcx1_0
  replace hcx1_1 := pw_cell_below hd hcx1_1
  replace hcg0_0 := pw_cell_below hd hcg0_0
  replace hcg0_1 := pw_cell_below hd hcg0_1
  replace HO3_0 := HO3_0.below hd
  replace HO3_1 := HO3_1.below hd
  replace HO5_0 := HO5_0.below hd
  replace HO5_1 := HO5_1.below hd
  replace HO6_0 := HO6_0.below hd
  replace HO6_1 := HO6_1.below hd
  replace HO7_0 := HO7_0.below hd
  replace HO7_1 := HO7_1.below hd
  replace HO10_0 := HO10_0.below hd
  replace HO10_1 := HO10_1.below hd
  replace HO13_0 := HO13_0.below hd
  replace HO13_1 := HO13_1.below hd
  replace hlaA : w.heap.size < W20.heap.size := Nat.lt_of_lt_of_le hlaA hd.size
  replace hlaB : w.heap.size + 1 < W20.heap.size := Nat.lt_of_lt_of_le hlaB hd.size
  replace hlw0 : bqq5100 < W20.heap.size := Nat.lt_of_lt_of_le hlw0 hd.size
  replace hlx0 : w5.heap.size < W20.heap.size := Nat.lt_of_lt_of_le hlx0 hd.size
  replace hlx1 : w6.heap.size < W20.heap.size := Nat.lt_of_lt_of_le hlx1 hd.size
  replace hlg0 : w7.heap.size < W20.heap.size := Nat.lt_of_lt_of_le hlg0 hd.size
  replace HB := Aside0.mk (below_on HB.out HB.out.size hd)
  clear hd
  refine take_ (i := 0) (N := some 95) (v := ?_) (a' := ?_) #[true, false, false, false, false, false, false, false, false, false, false] rfl rfl (by kernel_rfl) (fun _ _ _ h => h) (Or.inl ⟨by rfl, ?_⟩) hHeld ?_ ?_
  rotate_left
  ·rintro w' ⟨s0, s1, s2, s3⟩
   go_simp
   with_reducible rfl
  rotate_left
  ·simp only [Act.put, List.setIfInBounds_toArray, List.set_cons_zero, List.set_cons_succ, i64_w, i32_w]
   rfl
  refine take_ (i := 2) (N := some 97) (v := ?_) (a' := ?_) #[true, false, true, false, false, false, false, false, false, false, false] rfl rfl (by kernel_rfl) (fun _ _ _ h => h) (Or.inl ⟨by rfl, ?_⟩) hHeld ?_ ?_
  rotate_left
  ·rintro w' ⟨s0, s1, s2, s3⟩
   go_simp
   with_reducible rfl
  rotate_left
  ·simp only [Act.put, List.setIfInBounds_toArray, List.set_cons_zero, List.set_cons_succ, i64_w, i32_w]
   rfl
  refine join_ (σ := Option Addr × Option Addr × Nat × Nat × Option Addr × Option Addr × Nat × Nat × Option Addr × Option Addr × Nat × Nat × Nat × Nat × Nat) 2 #[true, true, true, true, true, true, true, true, true, false, false] (fun ⟨Ax0q5129, Ax1q5129, cx0q5129, cx1q5129, Ay0q5129, Ay1q5129, cy0q5129, cy1q5129, Az0q5129, Az1q5129, cz0q5129, cz1q5129, bqq5129, loq5129, hiq5129⟩ => [(96, .agg #[.slice Ax0q5129 t_aA_0.length cx0q5129, .slice Ax1q5129 t_aA_1.length cx1q5129]), (98, .agg #[.slice Ay0q5129 t_aB_0.length cy0q5129, .slice Ay1q5129 t_aB_1.length cy1q5129]), (99, .tuple #[.agg #[.slice Az0q5129 r_0.length cz0q5129, .slice Az1q5129 r_1.length cz1q5129], .bool r_2]), (94, .tuple #[.agg #[.slice Az0q5129 r_0.length cz0q5129, .slice Az1q5129 r_1.length cz1q5129], .bool r_2]), (100, .agg #[.slice Az0q5129 r_0.length cz0q5129, .slice Az1q5129 r_1.length cz1q5129]), (101, .bool r_2), (15, .pointer (some ⟨bqq5129, 0, none⟩))]) (fun ⟨Ax0q5129, Ax1q5129, cx0q5129, cx1q5129, Ay0q5129, Ay1q5129, cy0q5129, cy1q5129, Az0q5129, Az1q5129, cz0q5129, cz1q5129, bqq5129, loq5129, hiq5129⟩ w' => Below W20.heap.size W20 w' ∧ W20.heap.size ≤ loq5129 ∧ hiq5129 ≤ w'.heap.size ∧ W20.heap.size ≤ bqq5129 ∧ ¬ (loq5129 ≤ bqq5129 ∧ bqq5129 < hiq5129) ∧ w'.heap[bqq5129]? = some (.cells #[.slice none 0 0, .slice none 0 0] 27 (0, 0)) ∧ OwnR Kd.string 9 w.heap.size loq5129 hiq5129 w' (.slice Az0q5129 r_0.length cz0q5129) r_0 ∧ OwnR Kd.string 9 w.heap.size loq5129 hiq5129 w' (.slice Az1q5129 r_1.length cz1q5129) r_1) ?_ ?_
  rotate_left
  ·intro hCont
   have hT : Aside0 (Below W20.heap.size W20 W20) := ⟨Below.refl _ _⟩
   refine two_ (i := 1) (j := 8) (Ni := some 96) (Nj := some 15) #[true, true, true, false, false, false, false, false, false, false, false] #[true, false, true, false, false, false, false, false, true, false, false] rfl rfl rfl rfl (by kernel_rfl) (by decide) (by decide) (fun K hK => ?_) (fun K hK => ?_)
   ·-- the first call
    refine goes_ Try.func17 (by kernel_rfl) rfl #[.agg #[.slice A0_0 l0_0.length c0_0, .slice A0_1 l0_1.length c0_1]] (by rfl) rfl rfl (by (try simp only [List.map_toArray, List.map_cons, List.map_nil]); first | done | rfl | (simp only [List.length_drop, List.length_take]; rfl)) ?_
    obtain ⟨kk, e_⟩ := E5.out
    replace e_ := Aside0.mk e_
    refine (laws_toStripe.calls kk _ _ l0_0 _ _ l0_1 t_aA_0 t_aA_1 W20 (Kd.C_below HR0_0.out (below_on HB.out HB.out.size hT.out)) HC0_0.out (Kd.C_below HR0_1.out (below_on HB.out HB.out.size hT.out)) HC0_1.out e_.out).mono ?_
    rintro e u1 ⟨vx0, vx1, rfl, hx0, hx1, hb⟩
    refine ⟨_, rfl, ?_⟩
    clear e_
    have Ox0 := OwnR.new (b := w.heap.size) hx0 (below_on HB.out HB.out.size hT.out).size
    have Ox1 := OwnR.new (b := w.heap.size) hx1 (below_on HB.out HB.out.size hT.out).size
    clear hx0 hx1
    replace hT : Aside0 (Below W20.heap.size W20 _) := ⟨below_on hT.out hT.out.size hb⟩
    clear hb
    obtain ⟨Ax0q5129, cx0q5129, rfl⟩ := Ox0.slice
    obtain ⟨Ax1q5129, cx1q5129, rfl⟩ := Ox1.slice
    refine hK.out _ _ ⟨pw_cell_below hT.out hcaA_0, pw_cell_below hT.out hcaA_1, pw_cell_below hT.out hcaB_0, pw_cell_below hT.out hcaB_1⟩ (fun hHeld => ?_)
    clear hK K
    refine norm_ (a' := ?_) ?_ ?_
    rotate_left
    ·show Act.put _ (some 96) _ = _
     simp only [Act.put, List.setIfInBounds_toArray, List.set_cons_zero, List.set_cons_succ, i64_w, i32_w]
     rfl
    refine two_ (i := 3) (j := 8) (Ni := some 98) (Nj := some 15) #[true, true, true, true, false, false, false, false, false, false, false] #[true, true, true, false, false, false, false, false, true, false, false] rfl rfl rfl rfl (by kernel_rfl) (by decide) (by decide) (fun K hK => ?_) (fun K hK => ?_)
    ·-- the second call
     refine goes_ Try.func17 (by kernel_rfl) rfl #[.agg #[.slice A1_0 l1_0.length c1_0, .slice A1_1 l1_1.length c1_1]] (by rfl) rfl rfl (by (try simp only [List.map_toArray, List.map_cons, List.map_nil]); first | done | rfl | (simp only [List.length_drop, List.length_take]; rfl)) ?_
     obtain ⟨kk, e_⟩ := E6.out
     replace e_ := Aside0.mk e_
     refine (laws_toStripe.calls kk _ _ l1_0 _ _ l1_1 t_aB_0 t_aB_1 u1 (Kd.C_below HR1_0.out (below_on HB.out HB.out.size hT.out)) HC1_0.out (Kd.C_below HR1_1.out (below_on HB.out HB.out.size hT.out)) HC1_1.out e_.out).mono ?_
     rintro e u2 ⟨vy0, vy1, rfl, hy0, hy1, hb⟩
     refine ⟨_, rfl, ?_⟩
     clear e_
     have Oy0 := OwnR.new (b := w.heap.size) hy0 (below_on HB.out HB.out.size hT.out).size
     have Oy1 := OwnR.new (b := w.heap.size) hy1 (below_on HB.out HB.out.size hT.out).size
     clear hy0 hy1
     replace Ox0 := Ox0.below hb
     replace Ox1 := Ox1.below hb
     replace hT : Aside0 (Below W20.heap.size W20 _) := ⟨below_on hT.out hT.out.size hb⟩
     clear hb
     obtain ⟨Ay0q5129, cy0q5129, rfl⟩ := Oy0.slice
     obtain ⟨Ay1q5129, cy1q5129, rfl⟩ := Oy1.slice
     refine hK.out _ _ ⟨pw_cell_below hT.out hcaA_0, pw_cell_below hT.out hcaA_1, pw_cell_below hT.out hcaB_0, pw_cell_below hT.out hcaB_1⟩ (fun hHeld => ?_)
     clear hK K
     refine norm_ (a' := ?_) ?_ ?_
     rotate_left
     ·show Act.put _ (some 98) _ = _
      simp only [Act.put, List.setIfInBounds_toArray, List.set_cons_zero, List.set_cons_succ, i64_w, i32_w]
      rfl
     refine two_ (i := 4) (j := 8) (Ni := some 99) (Nj := some 15) #[true, true, true, true, true, false, false, false, false, false, false] #[true, true, true, true, false, false, false, false, true, false, false] rfl rfl rfl rfl (by kernel_rfl) (by decide) (by decide) (fun K hK => ?_) (fun K hK => ?_)
     ·-- the third call
      have hlo0 : W20.heap.size ≤ u2.heap.size := hT.out.size
      refine goes_ Try.func32 (by kernel_rfl) rfl #[.agg #[.slice Ax0q5129 t_aA_0.length cx0q5129, .slice Ax1q5129 t_aA_1.length cx1q5129], .agg #[.slice Ay0q5129 t_aB_0.length cy0q5129, .slice Ay1q5129 t_aB_1.length cy1q5129]] (by rfl) rfl rfl (by (try simp only [List.map_toArray, List.map_cons, List.map_nil]); first | done | rfl | (simp only [List.length_drop, List.length_take]; rfl)) ?_
      obtain ⟨kk, e_⟩ := E8.out
      replace e_ := Aside0.mk e_
      refine (impl_MergeStripes.calls kk _ _ t_aA_0 _ _ t_aA_1 _ _ t_aB_0 _ _ t_aB_1 r_0 r_1 r_2 u2 Ox0.C Ox0.cap Ox1.C Ox1.cap Oy0.C Oy0.cap Oy1.C Oy1.cap e_.out).mono ?_
      rintro e u3 ⟨vz0, vz1, rfl, hz0, hz1, hb⟩
      refine ⟨_, rfl, ?_⟩
      clear e_
      have Oz0 := OwnR.new (b := w.heap.size) hz0 (below_on HB.out HB.out.size hT.out).size
      have Oz1 := OwnR.new (b := w.heap.size) hz1 (below_on HB.out HB.out.size hT.out).size
      clear hz0 hz1
      replace Ox0 := Ox0.below hb
      replace Ox1 := Ox1.below hb
      replace Oy0 := Oy0.below hb
      replace Oy1 := Oy1.below hb
      replace hT : Aside0 (Below W20.heap.size W20 _) := ⟨below_on hT.out hT.out.size hb⟩
      have hz_ := hb.size
      clear hb
      obtain ⟨Az0q5129, cz0q5129, rfl⟩ := Oz0.slice
      obtain ⟨Az1q5129, cz1q5129, rfl⟩ := Oz1.slice
      refine hK.out _ _ ⟨pw_cell_below hT.out hcaA_0, pw_cell_below hT.out hcaA_1, pw_cell_below hT.out hcaB_0, pw_cell_below hT.out hcaB_1⟩ (fun hHeld => ?_)
      clear hK K
      refine norm_ (a' := ?_) ?_ ?_
      rotate_left
      ·show Act.put _ (some 99) _ = _
       simp only [Act.put, List.setIfInBounds_toArray, List.set_cons_zero, List.set_cons_succ, i64_w, i32_w]
       rfl
      refine pure_ (i := 5) (N := some 94) (v := ?_) (a' := ?_) #[true, true, true, true, true, true, false, false, false, false, false] rfl rfl (by kernel_rfl) (fun _ _ _ h => h) (Or.inl ⟨by rfl, ?_⟩) ?_ ?_
      rotate_left
      ·intro w'
       go_simp
       with_reducible rfl
      rotate_left
      ·simp only [Act.put, List.setIfInBounds_toArray, List.set_cons_zero, List.set_cons_succ, i64_w, i32_w]
       rfl
      refine pure_ (i := 6) (N := some 100) (v := ?_) (a' := ?_) #[true, true, true, true, true, true, true, false, false, false, false] rfl rfl (by kernel_rfl) (fun _ _ _ h => h) (Or.inl ⟨by rfl, ?_⟩) ?_ ?_
      rotate_left
      ·intro w'
       go_simp
       with_reducible rfl
      rotate_left
      ·simp only [Act.put, List.setIfInBounds_toArray, List.set_cons_zero, List.set_cons_succ, i64_w, i32_w]
       rfl
      refine pure_ (i := 7) (N := some 101) (v := ?_) (a' := ?_) #[true, true, true, true, true, true, true, true, false, false, false] rfl rfl (by kernel_rfl) (fun _ _ _ h => h) (Or.inl ⟨by rfl, ?_⟩) ?_ ?_
      rotate_left
      ·intro w'
       go_simp
       with_reducible rfl
      rotate_left
      ·simp only [Act.put, List.setIfInBounds_toArray, List.set_cons_zero, List.set_cons_succ, i64_w, i32_w]
       rfl
      refine one_ (i := 8) (N := some 15) #[true, true, true, true, true, true, true, true, true, false, false] rfl rfl (by kernel_rfl) (by decide) (fun K hK => ?_)
      refine value_ (by rfl) rfl (v := .pointer (some ⟨u3.heap.size, 0, none⟩)) (w1 := u3.alloc (.cells #[.slice none 0 0, .slice none 0 0] 27)) ?_ ?_
      ·first | (go_simp; done) | (go_simp; rfl)
      obtain ⟨u4, hw_⟩ : ∃ W_ : World, W_ = u3.alloc (.cells #[.slice none 0 0, .slice none 0 0] 27) := ⟨_, rfl⟩
      rw [← hw_]
      have hb : Below u3.heap.size u3 u4 := by rw [hw_]; exact below_alloc (Below.refl _ _) _
      have hq : u4.heap[u3.heap.size]? = some (.cells #[.slice none 0 0, .slice none 0 0] 27 (0, 0)) := by rw [hw_]; exact heap_alloc_new _ _
      have hbq : W20.heap.size ≤ u3.heap.size := hT.out.size
      have hbl : u3.heap.size < u4.heap.size := by rw [hw_]; simp
      clear hw_
      replace Ox0 := Ox0.below hb
      replace Ox1 := Ox1.below hb
      replace Oy0 := Oy0.below hb
      replace Oy1 := Oy1.below hb
      replace Oz0 := Oz0.below hb
      replace Oz1 := Oz1.below hb
      replace hT : Aside0 (Below W20.heap.size W20 _) := ⟨below_on hT.out hT.out.size hb⟩
      clear hb
      refine hK.out _ _ ⟨pw_cell_below hT.out hcaA_0, pw_cell_below hT.out hcaA_1, pw_cell_below hT.out hcaB_0, pw_cell_below hT.out hcaB_1⟩ (fun hHeld => ?_)
      clear hK K
      refine norm_ (a' := ?_) ?_ ?_
      rotate_left
      ·show Act.put _ (some 15) _ = _
       simp only [Act.put, List.setIfInBounds_toArray, List.set_cons_zero, List.set_cons_succ, i64_w, i32_w]
       rfl
      have hlo_ : W20.heap.size ≤ u2.heap.size := by omega
      have hhi_ : u3.heap.size ≤ u4.heap.size := by omega
      have hne_ : ¬ (u2.heap.size ≤ u3.heap.size ∧ u3.heap.size < u3.heap.size) := by omega
      have hF_ := hCont (Ax0q5129, Ax1q5129, cx0q5129, cx1q5129, Ay0q5129, Ay1q5129, cy0q5129, cy1q5129, Az0q5129, Az1q5129, cz0q5129, cz1q5129, u3.heap.size, u2.heap.size, u3.heap.size) _ ⟨hT.out, hlo_, hhi_, hbq, hne_, hq, Oz0, Oz1⟩
      simp only [putAll, Act.put, List.setIfInBounds_toArray, List.set_cons_zero, List.set_cons_succ] at hF_
      exact hF_
     ·-- the box now
      refine value_ (by rfl) rfl (v := .pointer (some ⟨u2.heap.size, 0, none⟩)) (w1 := u2.alloc (.cells #[.slice none 0 0, .slice none 0 0] 27)) ?_ ?_
      ·first | (go_simp; done) | (go_simp; rfl)
      obtain ⟨u3, hw_⟩ : ∃ W_ : World, W_ = u2.alloc (.cells #[.slice none 0 0, .slice none 0 0] 27) := ⟨_, rfl⟩
      rw [← hw_]
      have hb : Below u2.heap.size u2 u3 := by rw [hw_]; exact below_alloc (Below.refl _ _) _
      have hq : u3.heap[u2.heap.size]? = some (.cells #[.slice none 0 0, .slice none 0 0] 27 (0, 0)) := by rw [hw_]; exact heap_alloc_new _ _
      have hbq : W20.heap.size ≤ u2.heap.size := hT.out.size
      have hbl : u2.heap.size < u3.heap.size := by rw [hw_]; simp
      clear hw_
      replace Ox0 := Ox0.below hb
      replace Ox1 := Ox1.below hb
      replace Oy0 := Oy0.below hb
      replace Oy1 := Oy1.below hb
      replace hT : Aside0 (Below W20.heap.size W20 _) := ⟨below_on hT.out hT.out.size hb⟩
      clear hb
      refine hK.out _ _ ⟨pw_cell_below hT.out hcaA_0, pw_cell_below hT.out hcaA_1, pw_cell_below hT.out hcaB_0, pw_cell_below hT.out hcaB_1⟩ (fun hHeld => ?_)
      clear hK K
      refine norm_ (a' := ?_) ?_ ?_
      rotate_left
      ·show Act.put _ (some 15) _ = _
       simp only [Act.put, List.setIfInBounds_toArray, List.set_cons_zero, List.set_cons_succ, i64_w, i32_w]
       rfl
      refine one_ (i := 4) (N := some 99) #[true, true, true, true, true, false, false, false, true, false, false] rfl rfl (by kernel_rfl) (by decide) (fun K hK => ?_)
      have hlo0 : W20.heap.size ≤ u3.heap.size := hT.out.size
      refine goes_ Try.func32 (by kernel_rfl) rfl #[.agg #[.slice Ax0q5129 t_aA_0.length cx0q5129, .slice Ax1q5129 t_aA_1.length cx1q5129], .agg #[.slice Ay0q5129 t_aB_0.length cy0q5129, .slice Ay1q5129 t_aB_1.length cy1q5129]] (by rfl) rfl rfl (by (try simp only [List.map_toArray, List.map_cons, List.map_nil]); first | done | rfl | (simp only [List.length_drop, List.length_take]; rfl)) ?_
      obtain ⟨kk, e_⟩ := E8.out
      replace e_ := Aside0.mk e_
      refine (impl_MergeStripes.calls kk _ _ t_aA_0 _ _ t_aA_1 _ _ t_aB_0 _ _ t_aB_1 r_0 r_1 r_2 u3 Ox0.C Ox0.cap Ox1.C Ox1.cap Oy0.C Oy0.cap Oy1.C Oy1.cap e_.out).mono ?_
      rintro e u4 ⟨vz0, vz1, rfl, hz0, hz1, hb⟩
      refine ⟨_, rfl, ?_⟩
      clear e_
      have Oz0 := OwnR.new (b := w.heap.size) hz0 (below_on HB.out HB.out.size hT.out).size
      have Oz1 := OwnR.new (b := w.heap.size) hz1 (below_on HB.out HB.out.size hT.out).size
      clear hz0 hz1
      replace Ox0 := Ox0.below hb
      replace Ox1 := Ox1.below hb
      replace Oy0 := Oy0.below hb
      replace Oy1 := Oy1.below hb
      replace hq := blk_below hq hb
      replace hT : Aside0 (Below W20.heap.size W20 _) := ⟨below_on hT.out hT.out.size hb⟩
      have hz_ := hb.size
      have hbl2 : u2.heap.size < u4.heap.size := Nat.lt_of_lt_of_le hbl hb.size
      obtain ⟨Az0q5129, cz0q5129, rfl⟩ := Oz0.slice
      obtain ⟨Az1q5129, cz1q5129, rfl⟩ := Oz1.slice
      refine hK.out _ _ ⟨pw_cell_below hT.out hcaA_0, pw_cell_below hT.out hcaA_1, pw_cell_below hT.out hcaB_0, pw_cell_below hT.out hcaB_1⟩ (fun hHeld => ?_)
      clear hK K
      refine norm_ (a' := ?_) ?_ ?_
      rotate_left
      ·show Act.put _ (some 99) _ = _
       simp only [Act.put, List.setIfInBounds_toArray, List.set_cons_zero, List.set_cons_succ, i64_w, i32_w]
       rfl
      refine pure_ (i := 5) (N := some 94) (v := ?_) (a' := ?_) #[true, true, true, true, true, true, false, false, true, false, false] rfl rfl (by kernel_rfl) (fun _ _ _ h => h) (Or.inl ⟨by rfl, ?_⟩) ?_ ?_
      rotate_left
      ·intro w'
       go_simp
       with_reducible rfl
      rotate_left
      ·simp only [Act.put, List.setIfInBounds_toArray, List.set_cons_zero, List.set_cons_succ, i64_w, i32_w]
       rfl
      refine pure_ (i := 6) (N := some 100) (v := ?_) (a' := ?_) #[true, true, true, true, true, true, true, false, true, false, false] rfl rfl (by kernel_rfl) (fun _ _ _ h => h) (Or.inl ⟨by rfl, ?_⟩) ?_ ?_
      rotate_left
      ·intro w'
       go_simp
       with_reducible rfl
      rotate_left
      ·simp only [Act.put, List.setIfInBounds_toArray, List.set_cons_zero, List.set_cons_succ, i64_w, i32_w]
       rfl
      refine pure_ (i := 7) (N := some 101) (v := ?_) (a' := ?_) #[true, true, true, true, true, true, true, true, true, false, false] rfl rfl (by kernel_rfl) (fun _ _ _ h => h) (Or.inl ⟨by rfl, ?_⟩) ?_ ?_
      rotate_left
      ·intro w'
       go_simp
       with_reducible rfl
      rotate_left
      ·simp only [Act.put, List.setIfInBounds_toArray, List.set_cons_zero, List.set_cons_succ, i64_w, i32_w]
       rfl
      have hlo_ : W20.heap.size ≤ u3.heap.size := by omega
      have hhi_ : u4.heap.size ≤ u4.heap.size := by omega
      have hne_ : ¬ (u3.heap.size ≤ u2.heap.size ∧ u2.heap.size < u4.heap.size) := by omega
      have hF_ := hCont (Ax0q5129, Ax1q5129, cx0q5129, cx1q5129, Ay0q5129, Ay1q5129, cy0q5129, cy1q5129, Az0q5129, Az1q5129, cz0q5129, cz1q5129, u2.heap.size, u3.heap.size, u4.heap.size) _ ⟨hT.out, hlo_, hhi_, hbq, hne_, hq, Oz0, Oz1⟩
      simp only [putAll, Act.put, List.setIfInBounds_toArray, List.set_cons_zero, List.set_cons_succ] at hF_
      exact hF_
    ·-- the box now
     refine value_ (by rfl) rfl (v := .pointer (some ⟨u1.heap.size, 0, none⟩)) (w1 := u1.alloc (.cells #[.slice none 0 0, .slice none 0 0] 27)) ?_ ?_
     ·first | (go_simp; done) | (go_simp; rfl)
     obtain ⟨u2, hw_⟩ : ∃ W_ : World, W_ = u1.alloc (.cells #[.slice none 0 0, .slice none 0 0] 27) := ⟨_, rfl⟩
     rw [← hw_]
     have hb : Below u1.heap.size u1 u2 := by rw [hw_]; exact below_alloc (Below.refl _ _) _
     have hq : u2.heap[u1.heap.size]? = some (.cells #[.slice none 0 0, .slice none 0 0] 27 (0, 0)) := by rw [hw_]; exact heap_alloc_new _ _
     have hbq : W20.heap.size ≤ u1.heap.size := hT.out.size
     have hbl : u1.heap.size < u2.heap.size := by rw [hw_]; simp
     clear hw_
     replace Ox0 := Ox0.below hb
     replace Ox1 := Ox1.below hb
     replace hT : Aside0 (Below W20.heap.size W20 _) := ⟨below_on hT.out hT.out.size hb⟩
     clear hb
     refine hK.out _ _ ⟨pw_cell_below hT.out hcaA_0, pw_cell_below hT.out hcaA_1, pw_cell_below hT.out hcaB_0, pw_cell_below hT.out hcaB_1⟩ (fun hHeld => ?_)
     clear hK K
     refine norm_ (a' := ?_) ?_ ?_
     rotate_left
     ·show Act.put _ (some 15) _ = _
      simp only [Act.put, List.setIfInBounds_toArray, List.set_cons_zero, List.set_cons_succ, i64_w, i32_w]
      rfl
     refine one_ (i := 3) (N := some 98) #[true, true, true, true, false, false, false, false, true, false, false] rfl rfl (by kernel_rfl) (by decide) (fun K hK => ?_)
     refine goes_ Try.func17 (by kernel_rfl) rfl #[.agg #[.slice A1_0 l1_0.length c1_0, .slice A1_1 l1_1.length c1_1]] (by rfl) rfl rfl (by (try simp only [List.map_toArray, List.map_cons, List.map_nil]); first | done | rfl | (simp only [List.length_drop, List.length_take]; rfl)) ?_
     obtain ⟨kk, e_⟩ := E6.out
     replace e_ := Aside0.mk e_
     refine (laws_toStripe.calls kk _ _ l1_0 _ _ l1_1 t_aB_0 t_aB_1 u2 (Kd.C_below HR1_0.out (below_on HB.out HB.out.size hT.out)) HC1_0.out (Kd.C_below HR1_1.out (below_on HB.out HB.out.size hT.out)) HC1_1.out e_.out).mono ?_
     rintro e u3 ⟨vy0, vy1, rfl, hy0, hy1, hb⟩
     refine ⟨_, rfl, ?_⟩
     clear e_
     have Oy0 := OwnR.new (b := w.heap.size) hy0 (below_on HB.out HB.out.size hT.out).size
     have Oy1 := OwnR.new (b := w.heap.size) hy1 (below_on HB.out HB.out.size hT.out).size
     clear hy0 hy1
     replace Ox0 := Ox0.below hb
     replace Ox1 := Ox1.below hb
     replace hq := blk_below hq hb
     replace hT : Aside0 (Below W20.heap.size W20 _) := ⟨below_on hT.out hT.out.size hb⟩
     replace hbl : u1.heap.size < u3.heap.size := Nat.lt_of_lt_of_le hbl hb.size
     clear hb
     obtain ⟨Ay0q5129, cy0q5129, rfl⟩ := Oy0.slice
     obtain ⟨Ay1q5129, cy1q5129, rfl⟩ := Oy1.slice
     refine hK.out _ _ ⟨pw_cell_below hT.out hcaA_0, pw_cell_below hT.out hcaA_1, pw_cell_below hT.out hcaB_0, pw_cell_below hT.out hcaB_1⟩ (fun hHeld => ?_)
     clear hK K
     refine norm_ (a' := ?_) ?_ ?_
     rotate_left
     ·show Act.put _ (some 98) _ = _
      simp only [Act.put, List.setIfInBounds_toArray, List.set_cons_zero, List.set_cons_succ, i64_w, i32_w]
      rfl
     refine one_ (i := 4) (N := some 99) #[true, true, true, true, true, false, false, false, true, false, false] rfl rfl (by kernel_rfl) (by decide) (fun K hK => ?_)
     have hlo0 : W20.heap.size ≤ u3.heap.size := hT.out.size
     refine goes_ Try.func32 (by kernel_rfl) rfl #[.agg #[.slice Ax0q5129 t_aA_0.length cx0q5129, .slice Ax1q5129 t_aA_1.length cx1q5129], .agg #[.slice Ay0q5129 t_aB_0.length cy0q5129, .slice Ay1q5129 t_aB_1.length cy1q5129]] (by rfl) rfl rfl (by (try simp only [List.map_toArray, List.map_cons, List.map_nil]); first | done | rfl | (simp only [List.length_drop, List.length_take]; rfl)) ?_
     obtain ⟨kk, e_⟩ := E8.out
     replace e_ := Aside0.mk e_
     refine (impl_MergeStripes.calls kk _ _ t_aA_0 _ _ t_aA_1 _ _ t_aB_0 _ _ t_aB_1 r_0 r_1 r_2 u3 Ox0.C Ox0.cap Ox1.C Ox1.cap Oy0.C Oy0.cap Oy1.C Oy1.cap e_.out).mono ?_
     rintro e u4 ⟨vz0, vz1, rfl, hz0, hz1, hb⟩
     refine ⟨_, rfl, ?_⟩
     clear e_
     have Oz0 := OwnR.new (b := w.heap.size) hz0 (below_on HB.out HB.out.size hT.out).size
     have Oz1 := OwnR.new (b := w.heap.size) hz1 (below_on HB.out HB.out.size hT.out).size
     clear hz0 hz1
     replace Ox0 := Ox0.below hb
     replace Ox1 := Ox1.below hb
     replace Oy0 := Oy0.below hb
     replace Oy1 := Oy1.below hb
     replace hq := blk_below hq hb
     replace hT : Aside0 (Below W20.heap.size W20 _) := ⟨below_on hT.out hT.out.size hb⟩
     have hz_ := hb.size
     have hbl2 : u1.heap.size < u4.heap.size := Nat.lt_of_lt_of_le hbl hb.size
     obtain ⟨Az0q5129, cz0q5129, rfl⟩ := Oz0.slice
     obtain ⟨Az1q5129, cz1q5129, rfl⟩ := Oz1.slice
     refine hK.out _ _ ⟨pw_cell_below hT.out hcaA_0, pw_cell_below hT.out hcaA_1, pw_cell_below hT.out hcaB_0, pw_cell_below hT.out hcaB_1⟩ (fun hHeld => ?_)
     clear hK K
     refine norm_ (a' := ?_) ?_ ?_
     rotate_left
     ·show Act.put _ (some 99) _ = _
      simp only [Act.put, List.setIfInBounds_toArray, List.set_cons_zero, List.set_cons_succ, i64_w, i32_w]
      rfl
     refine pure_ (i := 5) (N := some 94) (v := ?_) (a' := ?_) #[true, true, true, true, true, true, false, false, true, false, false] rfl rfl (by kernel_rfl) (fun _ _ _ h => h) (Or.inl ⟨by rfl, ?_⟩) ?_ ?_
     rotate_left
     ·intro w'
      go_simp
      with_reducible rfl
     rotate_left
     ·simp only [Act.put, List.setIfInBounds_toArray, List.set_cons_zero, List.set_cons_succ, i64_w, i32_w]
      rfl
     refine pure_ (i := 6) (N := some 100) (v := ?_) (a' := ?_) #[true, true, true, true, true, true, true, false, true, false, false] rfl rfl (by kernel_rfl) (fun _ _ _ h => h) (Or.inl ⟨by rfl, ?_⟩) ?_ ?_
     rotate_left
     ·intro w'
      go_simp
      with_reducible rfl
     rotate_left
     ·simp only [Act.put, List.setIfInBounds_toArray, List.set_cons_zero, List.set_cons_succ, i64_w, i32_w]
      rfl
     refine pure_ (i := 7) (N := some 101) (v := ?_) (a' := ?_) #[true, true, true, true, true, true, true, true, true, false, false] rfl rfl (by kernel_rfl) (fun _ _ _ h => h) (Or.inl ⟨by rfl, ?_⟩) ?_ ?_
     rotate_left
     ·intro w'
      go_simp
      with_reducible rfl
     rotate_left
     ·simp only [Act.put, List.setIfInBounds_toArray, List.set_cons_zero, List.set_cons_succ, i64_w, i32_w]
      rfl
     have hlo_ : W20.heap.size ≤ u3.heap.size := by omega
     have hhi_ : u4.heap.size ≤ u4.heap.size := by omega
     have hne_ : ¬ (u3.heap.size ≤ u1.heap.size ∧ u1.heap.size < u4.heap.size) := by omega
     have hF_ := hCont (Ax0q5129, Ax1q5129, cx0q5129, cx1q5129, Ay0q5129, Ay1q5129, cy0q5129, cy1q5129, Az0q5129, Az1q5129, cz0q5129, cz1q5129, u1.heap.size, u3.heap.size, u4.heap.size) _ ⟨hT.out, hlo_, hhi_, hbq, hne_, hq, Oz0, Oz1⟩
     simp only [putAll, Act.put, List.setIfInBounds_toArray, List.set_cons_zero, List.set_cons_succ] at hF_
     exact hF_
   ·-- the box now
    refine value_ (by rfl) rfl (v := .pointer (some ⟨W20.heap.size, 0, none⟩)) (w1 := W20.alloc (.cells #[.slice none 0 0, .slice none 0 0] 27)) ?_ ?_
    ·first | (go_simp; done) | (go_simp; rfl)
    obtain ⟨u1, hw_⟩ : ∃ W_ : World, W_ = W20.alloc (.cells #[.slice none 0 0, .slice none 0 0] 27) := ⟨_, rfl⟩
    rw [← hw_]
    have hb : Below W20.heap.size W20 u1 := by rw [hw_]; exact below_alloc (Below.refl _ _) _
    have hq : u1.heap[W20.heap.size]? = some (.cells #[.slice none 0 0, .slice none 0 0] 27 (0, 0)) := by rw [hw_]; exact heap_alloc_new _ _
    have hbq : W20.heap.size ≤ W20.heap.size := hT.out.size
    have hbl : W20.heap.size < u1.heap.size := by rw [hw_]; simp
    clear hw_
    replace hT : Aside0 (Below W20.heap.size W20 _) := ⟨below_on hT.out hT.out.size hb⟩
    clear hb
    refine hK.out _ _ ⟨pw_cell_below hT.out hcaA_0, pw_cell_below hT.out hcaA_1, pw_cell_below hT.out hcaB_0, pw_cell_below hT.out hcaB_1⟩ (fun hHeld => ?_)
    clear hK K
    refine norm_ (a' := ?_) ?_ ?_
    rotate_left
    ·show Act.put _ (some 15) _ = _
     simp only [Act.put, List.setIfInBounds_toArray, List.set_cons_zero, List.set_cons_succ, i64_w, i32_w]
     rfl
    refine one_ (i := 1) (N := some 96) #[true, true, true, false, false, false, false, false, true, false, false] rfl rfl (by kernel_rfl) (by decide) (fun K hK => ?_)
    refine goes_ Try.func17 (by kernel_rfl) rfl #[.agg #[.slice A0_0 l0_0.length c0_0, .slice A0_1 l0_1.length c0_1]] (by rfl) rfl rfl (by (try simp only [List.map_toArray, List.map_cons, List.map_nil]); first | done | rfl | (simp only [List.length_drop, List.length_take]; rfl)) ?_
    obtain ⟨kk, e_⟩ := E5.out
    replace e_ := Aside0.mk e_
    refine (laws_toStripe.calls kk _ _ l0_0 _ _ l0_1 t_aA_0 t_aA_1 u1 (Kd.C_below HR0_0.out (below_on HB.out HB.out.size hT.out)) HC0_0.out (Kd.C_below HR0_1.out (below_on HB.out HB.out.size hT.out)) HC0_1.out e_.out).mono ?_
    rintro e u2 ⟨vx0, vx1, rfl, hx0, hx1, hb⟩
    refine ⟨_, rfl, ?_⟩
    clear e_
    have Ox0 := OwnR.new (b := w.heap.size) hx0 (below_on HB.out HB.out.size hT.out).size
    have Ox1 := OwnR.new (b := w.heap.size) hx1 (below_on HB.out HB.out.size hT.out).size
    clear hx0 hx1
    replace hq := blk_below hq hb
    replace hT : Aside0 (Below W20.heap.size W20 _) := ⟨below_on hT.out hT.out.size hb⟩
    replace hbl : W20.heap.size < u2.heap.size := Nat.lt_of_lt_of_le hbl hb.size
    clear hb
    obtain ⟨Ax0q5129, cx0q5129, rfl⟩ := Ox0.slice
    obtain ⟨Ax1q5129, cx1q5129, rfl⟩ := Ox1.slice
    refine hK.out _ _ ⟨pw_cell_below hT.out hcaA_0, pw_cell_below hT.out hcaA_1, pw_cell_below hT.out hcaB_0, pw_cell_below hT.out hcaB_1⟩ (fun hHeld => ?_)
    clear hK K
    refine norm_ (a' := ?_) ?_ ?_
    rotate_left
    ·show Act.put _ (some 96) _ = _
     simp only [Act.put, List.setIfInBounds_toArray, List.set_cons_zero, List.set_cons_succ, i64_w, i32_w]
     rfl
    refine one_ (i := 3) (N := some 98) #[true, true, true, true, false, false, false, false, true, false, false] rfl rfl (by kernel_rfl) (by decide) (fun K hK => ?_)
    refine goes_ Try.func17 (by kernel_rfl) rfl #[.agg #[.slice A1_0 l1_0.length c1_0, .slice A1_1 l1_1.length c1_1]] (by rfl) rfl rfl (by (try simp only [List.map_toArray, List.map_cons, List.map_nil]); first | done | rfl | (simp only [List.length_drop, List.length_take]; rfl)) ?_
    obtain ⟨kk, e_⟩ := E6.out
    replace e_ := Aside0.mk e_
    refine (laws_toStripe.calls kk _ _ l1_0 _ _ l1_1 t_aB_0 t_aB_1 u2 (Kd.C_below HR1_0.out (below_on HB.out HB.out.size hT.out)) HC1_0.out (Kd.C_below HR1_1.out (below_on HB.out HB.out.size hT.out)) HC1_1.out e_.out).mono ?_
    rintro e u3 ⟨vy0, vy1, rfl, hy0, hy1, hb⟩
    refine ⟨_, rfl, ?_⟩
    clear e_
    have Oy0 := OwnR.new (b := w.heap.size) hy0 (below_on HB.out HB.out.size hT.out).size
    have Oy1 := OwnR.new (b := w.heap.size) hy1 (below_on HB.out HB.out.size hT.out).size
    clear hy0 hy1
    replace Ox0 := Ox0.below hb
    replace Ox1 := Ox1.below hb
    replace hq := blk_below hq hb
    replace hT : Aside0 (Below W20.heap.size W20 _) := ⟨below_on hT.out hT.out.size hb⟩
    replace hbl : W20.heap.size < u3.heap.size := Nat.lt_of_lt_of_le hbl hb.size
    clear hb
    obtain ⟨Ay0q5129, cy0q5129, rfl⟩ := Oy0.slice
    obtain ⟨Ay1q5129, cy1q5129, rfl⟩ := Oy1.slice
    refine hK.out _ _ ⟨pw_cell_below hT.out hcaA_0, pw_cell_below hT.out hcaA_1, pw_cell_below hT.out hcaB_0, pw_cell_below hT.out hcaB_1⟩ (fun hHeld => ?_)
    clear hK K
    refine norm_ (a' := ?_) ?_ ?_
    rotate_left
    ·show Act.put _ (some 98) _ = _
     simp only [Act.put, List.setIfInBounds_toArray, List.set_cons_zero, List.set_cons_succ, i64_w, i32_w]
     rfl
    refine one_ (i := 4) (N := some 99) #[true, true, true, true, true, false, false, false, true, false, false] rfl rfl (by kernel_rfl) (by decide) (fun K hK => ?_)
    have hlo0 : W20.heap.size ≤ u3.heap.size := hT.out.size
    refine goes_ Try.func32 (by kernel_rfl) rfl #[.agg #[.slice Ax0q5129 t_aA_0.length cx0q5129, .slice Ax1q5129 t_aA_1.length cx1q5129], .agg #[.slice Ay0q5129 t_aB_0.length cy0q5129, .slice Ay1q5129 t_aB_1.length cy1q5129]] (by rfl) rfl rfl (by (try simp only [List.map_toArray, List.map_cons, List.map_nil]); first | done | rfl | (simp only [List.length_drop, List.length_take]; rfl)) ?_
    obtain ⟨kk, e_⟩ := E8.out
    replace e_ := Aside0.mk e_
    refine (impl_MergeStripes.calls kk _ _ t_aA_0 _ _ t_aA_1 _ _ t_aB_0 _ _ t_aB_1 r_0 r_1 r_2 u3 Ox0.C Ox0.cap Ox1.C Ox1.cap Oy0.C Oy0.cap Oy1.C Oy1.cap e_.out).mono ?_
    rintro e u4 ⟨vz0, vz1, rfl, hz0, hz1, hb⟩
    refine ⟨_, rfl, ?_⟩
    clear e_
    have Oz0 := OwnR.new (b := w.heap.size) hz0 (below_on HB.out HB.out.size hT.out).size
    have Oz1 := OwnR.new (b := w.heap.size) hz1 (below_on HB.out HB.out.size hT.out).size
    clear hz0 hz1
    replace Ox0 := Ox0.below hb
    replace Ox1 := Ox1.below hb
    replace Oy0 := Oy0.below hb
    replace Oy1 := Oy1.below hb
    replace hq := blk_below hq hb
    replace hT : Aside0 (Below W20.heap.size W20 _) := ⟨below_on hT.out hT.out.size hb⟩
    have hz_ := hb.size
    have hbl2 : W20.heap.size < u4.heap.size := Nat.lt_of_lt_of_le hbl hb.size
    obtain ⟨Az0q5129, cz0q5129, rfl⟩ := Oz0.slice
    obtain ⟨Az1q5129, cz1q5129, rfl⟩ := Oz1.slice
    refine hK.out _ _ ⟨pw_cell_below hT.out hcaA_0, pw_cell_below hT.out hcaA_1, pw_cell_below hT.out hcaB_0, pw_cell_below hT.out hcaB_1⟩ (fun hHeld => ?_)
    clear hK K
    refine norm_ (a' := ?_) ?_ ?_
    rotate_left
    ·show Act.put _ (some 99) _ = _
     simp only [Act.put, List.setIfInBounds_toArray, List.set_cons_zero, List.set_cons_succ, i64_w, i32_w]
     rfl
    refine pure_ (i := 5) (N := some 94) (v := ?_) (a' := ?_) #[true, true, true, true, true, true, false, false, true, false, false] rfl rfl (by kernel_rfl) (fun _ _ _ h => h) (Or.inl ⟨by rfl, ?_⟩) ?_ ?_
    rotate_left
    ·intro w'
     go_simp
     with_reducible rfl
    rotate_left
    ·simp only [Act.put, List.setIfInBounds_toArray, List.set_cons_zero, List.set_cons_succ, i64_w, i32_w]
     rfl
    refine pure_ (i := 6) (N := some 100) (v := ?_) (a' := ?_) #[true, true, true, true, true, true, true, false, true, false, false] rfl rfl (by kernel_rfl) (fun _ _ _ h => h) (Or.inl ⟨by rfl, ?_⟩) ?_ ?_
    rotate_left
    ·intro w'
     go_simp
     with_reducible rfl
    rotate_left
    ·simp only [Act.put, List.setIfInBounds_toArray, List.set_cons_zero, List.set_cons_succ, i64_w, i32_w]
     rfl
    refine pure_ (i := 7) (N := some 101) (v := ?_) (a' := ?_) #[true, true, true, true, true, true, true, true, true, false, false] rfl rfl (by kernel_rfl) (fun _ _ _ h => h) (Or.inl ⟨by rfl, ?_⟩) ?_ ?_
    rotate_left
    ·intro w'
     go_simp
     with_reducible rfl
    rotate_left
    ·simp only [Act.put, List.setIfInBounds_toArray, List.set_cons_zero, List.set_cons_succ, i64_w, i32_w]
     rfl
    have hlo_ : W20.heap.size ≤ u3.heap.size := by omega
    have hhi_ : u4.heap.size ≤ u4.heap.size := by omega
    have hne_ : ¬ (u3.heap.size ≤ W20.heap.size ∧ W20.heap.size < u4.heap.size) := by omega
    have hF_ := hCont (Ax0q5129, Ax1q5129, cx0q5129, cx1q5129, Ay0q5129, Ay1q5129, cy0q5129, cy1q5129, Az0q5129, Az1q5129, cz0q5129, cz1q5129, W20.heap.size, u3.heap.size, u4.heap.size) _ ⟨hT.out, hlo_, hhi_, hbq, hne_, hq, Oz0, Oz1⟩
    simp only [putAll, Act.put, List.setIfInBounds_toArray, List.set_cons_zero, List.set_cons_succ] at hF_
    exact hF_
  rintro ⟨Ax0q5129, Ax1q5129, cx0q5129, cx1q5129, Ay0q5129, Ay1q5129, cy0q5129, cy1q5129, Az0q5129, Az1q5129, cz0q5129, cz1q5129, bqq5129, loq5129, hiq5129⟩ w20 ⟨hT, hlo_, hhi_, hgeb, hnb, hq, HO20_0, HO20_1⟩
  simp only [putAll, Act.put, List.setIfInBounds_toArray, List.set_cons_zero, List.set_cons_succ]
  have hbl := blk_lt hq
  have hTs := hT.size
  have zlo20 := Aside0.mk hlo_
  have zhi20 := Aside0.mk hhi_
  have zge20 := Aside0.mk hgeb
  have znb20 := Aside0.mk hnb
  have zbl20 := Aside0.mk hbl
  have zT20 := Aside0.mk hTs
  have hx_0 : w20.cell? ⟨bqq5129, 0, none⟩ = some (.slice none 0 0) := (blk_cell hq 0).trans rfl
  have hy_0 := blk_frozen hq 0
  have hx_1 : w20.cell? ⟨bqq5129, 1, none⟩ = some (.slice none 0 0) := (blk_cell hq 1).trans rfl
  have hy_1 := blk_frozen hq 1
  refine last_ (i := 9) (N := none) #[true, true, true, true, true, true, true, true, true, true, false] rfl rfl (by kernel_rfl) (by decide) (fun K hK => ?_)
  refine skip_ (w1 := ?_) (by rfl) rfl ?_ ?_
  rotate_left
  ·go_simp
   rfl
  refine hK.out _ _ ?_
  clear hK K
  refine pure_ (i := 10) (N := some 16) (v := ?_) (a' := ?_) #[true, true, true, true, true, true, true, true, true, true, true] rfl rfl (by kernel_rfl) (fun _ _ _ h => h) (Or.inl ⟨by rfl, ?_⟩) ?_ ?_
  rotate_left
  ·intro w'
   go_simp
   with_reducible rfl
  rotate_left
  ·simp only [Act.put, List.setIfInBounds_toArray, List.set_cons_zero, List.set_cons_succ, i64_w, i32_w]
   rfl
  refine done_ (by kernel_rfl) ?_
  obtain ⟨W21, hW⟩ : ∃ W_ : World, W_ = (w20.setCell ⟨bqq5129, 0, none⟩ (.slice Az0q5129 r_0.length cz0q5129)).setCell ⟨bqq5129, 1, none⟩ (.slice Az1q5129 r_1.length cz1q5129) := ⟨_, rfl⟩
  rw [← hW]
  have hs : Below W20.heap.size W20 W21 := by rw [hW]; repeat (first | exact hT | refine below_set ?_ hgeb)
  have hch0_0 : W21.cell? ⟨bqq5129, 0, none⟩ = some (.slice Az0q5129 r_0.length cz0q5129) := by rw [hW]; go_simp
  have hch0_1 : W21.cell? ⟨bqq5129, 1, none⟩ = some (.slice Az1q5129 r_1.length cz1q5129) := by rw [hW]; go_simp
  have hlh0 : bqq5129 < W21.heap.size := by rw [hW]; simp <;> omega
  have zlh0 := Aside0.mk hlh0
  replace HO20_0 : OwnR Kd.string 9 w.heap.size loq5129 hiq5129 W21 (.slice Az0q5129 r_0.length cz0q5129) r_0 := by rw [hW]; repeat (first | exact HO20_0 | refine OwnR.far ?_ hnb _)
  replace HO20_1 : OwnR Kd.string 9 w.heap.size loq5129 hiq5129 W21 (.slice Az1q5129 r_1.length cz1q5129) r_1 := by rw [hW]; repeat (first | exact HO20_1 | refine OwnR.far ?_ hnb _)
  have zhz21 : Aside0 (w20.heap.size ≤ W21.heap.size) := ⟨by rw [hW]; simp <;> omega⟩
  clear hW hq hx_0 hy_0 hx_1 hy_1
  replace hcaA_0 := pw_cell_below hs hcaA_0
  replace hcaA_1 := pw_cell_below hs hcaA_1
  replace hcaB_0 := pw_cell_below hs hcaB_0
  replace hcaB_1 := pw_cell_below hs hcaB_1
  replace hcw0_0 := pw_cell_below hs hcw0_0
  replace hcw0_1 := pw_cell_below hs hcw0_1
  replace hcx0_0 := pw_cell_below hs hcx0_0
  replace hcx0_1 := pw_cell_below hs hcx0_1
  replace hcx1_0 := pw_cell_below hs hcx1_0
  replace hcx1_1 := pw_cell_below hs hcx1_1
  replace hcg0_0 := pw_cell_below hs hcg0_0
  replace hcg0_1 := pw_cell_below hs hcg0_1
  replace HO3_0 := HO3_0.below hs
  replace HO3_1 := HO3_1.below hs
  replace HO5_0 := HO5_0.below hs
  replace HO5_1 := HO5_1.below hs
  replace HO6_0 := HO6_0.below hs
  replace HO6_1 := HO6_1.below hs
  replace HO7_0 := HO7_0.below hs
  replace HO7_1 := HO7_1.below hs
  replace HO10_0 := HO10_0.below hs
  replace HO10_1 := HO10_1.below hs
  replace HO13_0 := HO13_0.below hs
  replace HO13_1 := HO13_1.below hs
  replace hlaA : w.heap.size < W21.heap.size := Nat.lt_of_lt_of_le hlaA hs.size
  replace hlaB : w.heap.size + 1 < W21.heap.size := Nat.lt_of_lt_of_le hlaB hs.size
  replace hlw0 : bqq5100 < W21.heap.size := Nat.lt_of_lt_of_le hlw0 hs.size
  replace hlx0 : w5.heap.size < W21.heap.size := Nat.lt_of_lt_of_le hlx0 hs.size
  replace hlx1 : w6.heap.size < W21.heap.size := Nat.lt_of_lt_of_le hlx1 hs.size
  replace hlg0 : w7.heap.size < W21.heap.size := Nat.lt_of_lt_of_le hlg0 hs.size
  replace HB := Aside0.mk (below_on HB.out HB.out.size hs)
  have zs21 := Aside0.mk hs.size
  clear hs hT hTs hlo_ hhi_ hgeb hnb hbl
  go_wp2_with fail
  refine calls_named fun W22 hW => ?_
  have hs : Below W21.heap.size W21 W22 := by rw [hW]; repeat (first | exact Below.refl _ _ | apply below_alloc | apply below_drew1 | apply pw_below_drewN)
  clear hW
  replace hcaA_0 := pw_cell_below hs hcaA_0
  replace hcaA_1 := pw_cell_below hs hcaA_1
  replace hcaB_0 := pw_cell_below hs hcaB_0
  replace hcaB_1 := pw_cell_below hs hcaB_1
  replace hcw0_0 := pw_cell_below hs hcw0_0
  replace hcw0_1 := pw_cell_below hs hcw0_1
  replace hcx0_0 := pw_cell_below hs hcx0_0
  replace hcx0_1 := pw_cell_below hs hcx0_1
  replace hcx1_0 := pw_cell_below hs hcx1_0
  replace hcx1_1 := pw_cell_below hs hcx1_1
  replace hcg0_0 := pw_cell_below hs hcg0_0
  replace hcg0_1 := pw_cell_below hs hcg0_1
  replace hch0_0 := pw_cell_below hs hch0_0
  replace hch0_1 := pw_cell_below hs hch0_1
  replace HO3_0 := HO3_0.below hs
  replace HO3_1 := HO3_1.below hs
  replace HO5_0 := HO5_0.below hs
  replace HO5_1 := HO5_1.below hs
  replace HO6_0 := HO6_0.below hs
  replace HO6_1 := HO6_1.below hs
  replace HO7_0 := HO7_0.below hs
  replace HO7_1 := HO7_1.below hs
  replace HO10_0 := HO10_0.below hs
  replace HO10_1 := HO10_1.below hs
  replace HO13_0 := HO13_0.below hs
  replace HO13_1 := HO13_1.below hs
  replace HO20_0 := HO20_0.below hs
  replace HO20_1 := HO20_1.below hs
  replace hlaA : w.heap.size < W22.heap.size := Nat.lt_of_lt_of_le hlaA hs.size
  replace hlaB : w.heap.size + 1 < W22.heap.size := Nat.lt_of_lt_of_le hlaB hs.size
  replace hlw0 : bqq5100 < W22.heap.size := Nat.lt_of_lt_of_le hlw0 hs.size
  replace hlx0 : w5.heap.size < W22.heap.size := Nat.lt_of_lt_of_le hlx0 hs.size
  replace hlx1 : w6.heap.size < W22.heap.size := Nat.lt_of_lt_of_le hlx1 hs.size
  replace hlg0 : w7.heap.size < W22.heap.size := Nat.lt_of_lt_of_le hlg0 hs.size
  replace hlh0 : bqq5129 < W22.heap.size := Nat.lt_of_lt_of_le hlh0 hs.size
  replace HB := Aside0.mk (below_on HB.out HB.out.size hs)
  have zs22 := Aside0.mk hs.size
  clear hs
  obtain ⟨kk22, e_22⟩ := E9.out
  replace e_22 := Aside0.mk e_22
  refine (laws_eqStripe.calls kk22 _ _ r_0 _ _ r_1 _ _ r_0 _ _ r_1 true W22 HO20_0.C HO20_0.cap HO20_1.C HO20_1.cap HO3_0.C HO3_0.cap HO3_1.C HO3_1.cap e_22.out).mono ?_
  rintro e w22 ⟨rfl, hb⟩
  clear e_22
  have zc22 := Aside0.mk hb.size
  replace hcaA_0 := pw_cell_below hb hcaA_0
  replace hcaA_1 := pw_cell_below hb hcaA_1
  replace hcaB_0 := pw_cell_below hb hcaB_0
  replace hcaB_1 := pw_cell_below hb hcaB_1
  replace hcw0_0 := pw_cell_below hb hcw0_0
  replace hcw0_1 := pw_cell_below hb hcw0_1
  replace hcx0_0 := pw_cell_below hb hcx0_0
  replace hcx0_1 := pw_cell_below hb hcx0_1
  replace hcx1_0 := pw_cell_below hb hcx1_0
  replace hcx1_1 := pw_cell_below hb hcx1_1
  replace hcg0_0 := pw_cell_below hb hcg0_0
  replace hcg0_1 := pw_cell_below hb hcg0_1
  replace hch0_0 := pw_cell_below hb hch0_0
  replace hch0_1 := pw_cell_below hb hch0_1
  replace HO3_0 := HO3_0.below hb
  replace HO3_1 := HO3_1.below hb
  replace HO5_0 := HO5_0.below hb
  replace HO5_1 := HO5_1.below hb
  replace HO6_0 := HO6_0.below hb
  replace HO6_1 := HO6_1.below hb
  replace HO7_0 := HO7_0.below hb
  replace HO7_1 := HO7_1.below hb
  replace HO10_0 := HO10_0.below hb
  replace HO10_1 := HO10_1.below hb
  replace HO13_0 := HO13_0.below hb
  replace HO13_1 := HO13_1.below hb
  replace HO20_0 := HO20_0.below hb
  replace HO20_1 := HO20_1.below hb
  replace hlaA : w.heap.size < w22.heap.size := Nat.lt_of_lt_of_le hlaA hb.size
  replace hlaB : w.heap.size + 1 < w22.heap.size := Nat.lt_of_lt_of_le hlaB hb.size
  replace hlw0 : bqq5100 < w22.heap.size := Nat.lt_of_lt_of_le hlw0 hb.size
  replace hlx0 : w5.heap.size < w22.heap.size := Nat.lt_of_lt_of_le hlx0 hb.size
  replace hlx1 : w6.heap.size < w22.heap.size := Nat.lt_of_lt_of_le hlx1 hb.size
  replace hlg0 : w7.heap.size < w22.heap.size := Nat.lt_of_lt_of_le hlg0 hb.size
  replace hlh0 : bqq5129 < w22.heap.size := Nat.lt_of_lt_of_le hlh0 hb.size
  replace HB := Aside0.mk (below_on HB.out HB.out.size hb)
  clear hb
  go_wp2_with fail
  refine calls_named fun W23 hW => ?_
  have hs : Below w22.heap.size w22 W23 := by rw [hW]; repeat (first | exact Below.refl _ _ | apply below_alloc | apply below_drew1 | apply pw_below_drewN)
  clear hW
  replace hcaA_0 := pw_cell_below hs hcaA_0
  replace hcaA_1 := pw_cell_below hs hcaA_1
  replace hcaB_0 := pw_cell_below hs hcaB_0
  replace hcaB_1 := pw_cell_below hs hcaB_1
  replace hcw0_0 := pw_cell_below hs hcw0_0
  replace hcw0_1 := pw_cell_below hs hcw0_1
  replace hcx0_0 := pw_cell_below hs hcx0_0
  replace hcx0_1 := pw_cell_below hs hcx0_1
  replace hcx1_0 := pw_cell_below hs hcx1_0
  replace hcx1_1 := pw_cell_below hs hcx1_1
  replace hcg0_0 := pw_cell_below hs hcg0_0
  replace hcg0_1 := pw_cell_below hs hcg0_1
  replace hch0_0 := pw_cell_below hs hch0_0
  replace hch0_1 := pw_cell_below hs hch0_1
  replace HO3_0 := HO3_0.below hs
  replace HO3_1 := HO3_1.below hs
  replace HO5_0 := HO5_0.below hs
  replace HO5_1 := HO5_1.below hs
  replace HO6_0 := HO6_0.below hs
  replace HO6_1 := HO6_1.below hs
  replace HO7_0 := HO7_0.below hs
  replace HO7_1 := HO7_1.below hs
  replace HO10_0 := HO10_0.below hs
  replace HO10_1 := HO10_1.below hs
  replace HO13_0 := HO13_0.below hs
  replace HO13_1 := HO13_1.below hs
  replace HO20_0 := HO20_0.below hs
  replace HO20_1 := HO20_1.below hs
  replace hlaA : w.heap.size < W23.heap.size := Nat.lt_of_lt_of_le hlaA hs.size
  replace hlaB : w.heap.size + 1 < W23.heap.size := Nat.lt_of_lt_of_le hlaB hs.size
  replace hlw0 : bqq5100 < W23.heap.size := Nat.lt_of_lt_of_le hlw0 hs.size
  replace hlx0 : w5.heap.size < W23.heap.size := Nat.lt_of_lt_of_le hlx0 hs.size
  replace hlx1 : w6.heap.size < W23.heap.size := Nat.lt_of_lt_of_le hlx1 hs.size
  replace hlg0 : w7.heap.size < W23.heap.size := Nat.lt_of_lt_of_le hlg0 hs.size
  replace hlh0 : bqq5129 < W23.heap.size := Nat.lt_of_lt_of_le hlh0 hs.size
  replace HB := Aside0.mk (below_on HB.out HB.out.size hs)
  have zs23 := Aside0.mk hs.size
  clear hs
  obtain ⟨kk23, e_23⟩ := E12.out
  replace e_23 := Aside0.mk e_23
  refine calls_of_args (args' := #[.agg #[.slice A7_0 (markTS 1 r_0.length).length c7_0, .slice A7_1 (markTS (1 + ((r_0.length : Nat) : Int)) r_1.length).length c7_1], .int .i64 1]) (by simp [markSS_length, markB_length, markI_length, markTS_length]) ?_
  refine (laws_heldStripe.calls kk23 _ _ (markTS 1 r_0.length) _ _ (markTS (1 + ((r_0.length : Nat) : Int)) r_1.length) 1 (1 + ((r_0.length : Nat) : Int) + ((r_1.length : Nat) : Int)) W23 HO7_0.C HO7_0.cap HO7_1.C HO7_1.cap e_23.out).mono ?_
  rintro e w23 ⟨rfl, hb⟩
  clear e_23
  have zc23 := Aside0.mk hb.size
  replace hcaA_0 := pw_cell_below hb hcaA_0
  replace hcaA_1 := pw_cell_below hb hcaA_1
  replace hcaB_0 := pw_cell_below hb hcaB_0
  replace hcaB_1 := pw_cell_below hb hcaB_1
  replace hcw0_0 := pw_cell_below hb hcw0_0
  replace hcw0_1 := pw_cell_below hb hcw0_1
  replace hcx0_0 := pw_cell_below hb hcx0_0
  replace hcx0_1 := pw_cell_below hb hcx0_1
  replace hcx1_0 := pw_cell_below hb hcx1_0
  replace hcx1_1 := pw_cell_below hb hcx1_1
  replace hcg0_0 := pw_cell_below hb hcg0_0
  replace hcg0_1 := pw_cell_below hb hcg0_1
  replace hch0_0 := pw_cell_below hb hch0_0
  replace hch0_1 := pw_cell_below hb hch0_1
  replace HO3_0 := HO3_0.below hb
  replace HO3_1 := HO3_1.below hb
  replace HO5_0 := HO5_0.below hb
  replace HO5_1 := HO5_1.below hb
  replace HO6_0 := HO6_0.below hb
  replace HO6_1 := HO6_1.below hb
  replace HO7_0 := HO7_0.below hb
  replace HO7_1 := HO7_1.below hb
  replace HO10_0 := HO10_0.below hb
  replace HO10_1 := HO10_1.below hb
  replace HO13_0 := HO13_0.below hb
  replace HO13_1 := HO13_1.below hb
  replace HO20_0 := HO20_0.below hb
  replace HO20_1 := HO20_1.below hb
  replace hlaA : w.heap.size < w23.heap.size := Nat.lt_of_lt_of_le hlaA hb.size
  replace hlaB : w.heap.size + 1 < w23.heap.size := Nat.lt_of_lt_of_le hlaB hb.size
  replace hlw0 : bqq5100 < w23.heap.size := Nat.lt_of_lt_of_le hlw0 hb.size
  replace hlx0 : w5.heap.size < w23.heap.size := Nat.lt_of_lt_of_le hlx0 hb.size
  replace hlx1 : w6.heap.size < w23.heap.size := Nat.lt_of_lt_of_le hlx1 hb.size
  replace hlg0 : w7.heap.size < w23.heap.size := Nat.lt_of_lt_of_le hlg0 hb.size
  replace hlh0 : bqq5129 < w23.heap.size := Nat.lt_of_lt_of_le hlh0 hb.size
  replace HB := Aside0.mk (below_on HB.out HB.out.size hb)
  clear hb
  go_wp2
  go_ret
  exact ⟨rfl, by repeat (first | exact HB.out | apply below_alloc | apply below_drew1 | apply pw_below_drewN)⟩
end Go.Proofs.Ytlmcobjpmonkfaa.PFnExactMergeStripes
-- HALVED
