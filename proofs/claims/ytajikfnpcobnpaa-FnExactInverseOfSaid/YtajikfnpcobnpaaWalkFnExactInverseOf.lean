/- The walk through the law FnExactInverseOf, out of the contracts of what it calls. -/
import Derived.Test.YtajikfnpcobnpaaPFnExactInverseOfx
import Derived.Test.YtajikfnpcobnpaaLawKit
import Derived.Test.YtajikfnpcobnpaaTxt
namespace Go.Proofs.Ytajikfnpcobnpaa.PFnExactInverseOf
open Go.RowKit Go.Proofs.YtajikfnpcobnpaaW.PrintWords Go.Proofs.YtajikfnpcobnpaaW.PrintLast Go.Proofs.YtajikfnpcobnpaaW.PrintMore Go.Proofs.Ytajikfnpcobnpaa.Gf Go.Proofs.Ytajikfnpcobnpaa.Kit Go.Proofs.Ytajikfnpcobnpaa.LawKit
set_option linter.unusedVariables false
set_option linter.unusedSimpArgs false
def laws_FnExactInverseOf.Facts0 (l0_0 : List (List (Int))) : Prop := ∃ s_0 : Int, (∃ k, laws_szMatrix.f k l0_0 1048576 = some s_0) ∧ (s_0 < 0)
def laws_FnExactInverseOf.Facts1 (l0_0 : List (List (Int))) : Prop := ∃ s_0 : Int, ∃ t_aM_0 : List (List (Int)), ∃ r_0 : List (List (Int)), ∃ r_1 : Bool, (∃ k, laws_szMatrix.f k l0_0 1048576 = some s_0) ∧ (¬ s_0 < 0) ∧ (∃ k, laws_toMatrix.f k l0_0 = some t_aM_0) ∧ (∃ k, spec_InverseOf.f k t_aM_0 = some (r_0, r_1)) ∧ (impl_InverseOf.f t_aM_0 = some (r_0, r_1)) ∧ (∃ k, laws_eqMatrix.f k r_0 r_0 = some true) ∧ (∃ k, laws_eqMatrix.f k t_aM_0 t_aM_0 = some true) ∧ (∃ k, laws_heldMatrix.f k (markSS 1 r_0) 1 = some (1 + ((totSS r_0 : Nat) : Int))) ∧ (∀ (l : List Int) (a : Int), 0 ≤ a → a + l.length < 4611686018427387904 → ∃ k, laws_markByteS.f k l a = some (a + ((l.length : Nat) : Int), markB a l.length)) ∧ (totSS t_aM_0 < 1152921504606846976 ∧ t_aM_0.length < 1152921504606846976) ∧ (totSS r_0 < 1152921504606846976 ∧ r_0.length < 1152921504606846976)
def laws_FnExactInverseOf.Facts (l0_0 : List (List (Int))) : Prop := laws_FnExactInverseOf.Facts0 l0_0 ∨ laws_FnExactInverseOf.Facts1 l0_0
set_option maxHeartbeats 16000000 in
set_option maxRecDepth 100000 in
theorem laws_FnExactInverseOf.calls (A0_0 : Option Addr) (c0_0 : Nat) (l0_0 : List (List (Int))) (w : World) (hr0_0 : Kd.C (Kd.slice 5 (Kd.int .u8)) w A0_0 l0_0.length l0_0) (hc0_0 : l0_0.length ≤ c0_0) (h : laws_FnExactInverseOf.Facts l0_0) :
    Calls Try.prog 6 #[.agg #[.slice A0_0 l0_0.length c0_0]] w fun e w' => e = .returned (.bool true) ∧ Below w.heap.size w w' := by
  have HR0_0 := Aside0.mk hr0_0
  have HC0_0 := Aside0.mk hc0_0
  clear hr0_0 hc0_0
  have HB := Aside0.mk (Below.refl w.heap.size w)
  rcases h with h | h
  · obtain ⟨s_0, E0, G1⟩ := h
    replace E0 := Aside0.mk E0
    replace G1 := Aside0.mk G1
    go_enter Try.func6, Try.ntmps6
    go_wp2_with fail
    refine calls_named fun W1 hW => ?_
    have hs : Below w.heap.size w W1 := by rw [hW]; repeat (first | exact Below.refl _ _ | apply below_alloc | apply below_drew1 | apply pw_below_drewN)
    have hcaM_0 : W1.cell? ⟨w.heap.size, 0, none⟩ = some (.slice A0_0 l0_0.length c0_0) := by rw [hW]; go_simp
    have hlaM : w.heap.size < W1.heap.size := by rw [hW]; simp <;> omega
    have zlaM := Aside0.mk hlaM
    clear hW
    replace HB := Aside0.mk (below_on HB.out HB.out.size hs)
    have zs1 := Aside0.mk hs.size
    clear hs
    obtain ⟨kk1, e_1⟩ := E0.out
    replace e_1 := Aside0.mk e_1
    refine (laws_szMatrix.calls kk1 _ _ l0_0 1048576 s_0 W1 (Kd.C_below HR0_0.out HB.out) HC0_0.out e_1.out).mono ?_
    rintro e w1 ⟨rfl, hb⟩
    clear e_1
    have zc1 := Aside0.mk hb.size
    replace hcaM_0 := pw_cell_below hb hcaM_0
    replace hlaM : w.heap.size < w1.heap.size := Nat.lt_of_lt_of_le hlaM hb.size
    replace HB := Aside0.mk (below_on HB.out HB.out.size hb)
    clear hb
    have hg1 := decide_eq_true (show s_0 < 0 by have := G1.out; omega)
    go_wp2
    go_ret
    exact ⟨rfl, by repeat (first | exact HB.out | apply below_alloc | apply below_drew1 | apply pw_below_drewN)⟩
  · obtain ⟨s_0, t_aM_0, r_0, r_1, E0, G1, E2, E4, E5, E6, E7, E8, HMB, HT0, HT1⟩ := h
    replace E0 := Aside0.mk E0
    replace G1 := Aside0.mk G1
    replace E2 := Aside0.mk E2
    replace E4 := Aside0.mk E4
    replace E5 := Aside0.mk E5
    replace E6 := Aside0.mk E6
    replace E7 := Aside0.mk E7
    replace E8 := Aside0.mk E8
    replace HMB := Aside0.mk HMB
    replace HT0 := Aside0.mk HT0
    replace HT1 := Aside0.mk HT1
    go_enter Try.func6, Try.ntmps6
    go_wp2_with fail
    refine calls_named fun W1 hW => ?_
    have hs : Below w.heap.size w W1 := by rw [hW]; repeat (first | exact Below.refl _ _ | apply below_alloc | apply below_drew1 | apply pw_below_drewN)
    have hcaM_0 : W1.cell? ⟨w.heap.size, 0, none⟩ = some (.slice A0_0 l0_0.length c0_0) := by rw [hW]; go_simp
    have hlaM : w.heap.size < W1.heap.size := by rw [hW]; simp <;> omega
    have zlaM := Aside0.mk hlaM
    clear hW
    replace HB := Aside0.mk (below_on HB.out HB.out.size hs)
    have zs1 := Aside0.mk hs.size
    clear hs
    obtain ⟨kk1, e_1⟩ := E0.out
    replace e_1 := Aside0.mk e_1
    refine (laws_szMatrix.calls kk1 _ _ l0_0 1048576 s_0 W1 (Kd.C_below HR0_0.out HB.out) HC0_0.out e_1.out).mono ?_
    rintro e w1 ⟨rfl, hb⟩
    clear e_1
    have zc1 := Aside0.mk hb.size
    replace hcaM_0 := pw_cell_below hb hcaM_0
    replace hlaM : w.heap.size < w1.heap.size := Nat.lt_of_lt_of_le hlaM hb.size
    replace HB := Aside0.mk (below_on HB.out HB.out.size hb)
    clear hb
    have hg1 := decide_eq_false (show ¬ (s_0 < 0) by have := G1.out; omega)
    go_wp2_with fail
    refine calls_named fun W2 hW => ?_
    have hs : Below w1.heap.size w1 W2 := by rw [hW]; repeat (first | exact Below.refl _ _ | apply below_alloc | apply below_drew1 | apply pw_below_drewN)
    clear hW
    replace hcaM_0 := pw_cell_below hs hcaM_0
    replace hlaM : w.heap.size < W2.heap.size := Nat.lt_of_lt_of_le hlaM hs.size
    replace HB := Aside0.mk (below_on HB.out HB.out.size hs)
    have zs2 := Aside0.mk hs.size
    clear hs
    obtain ⟨kk2, e_2⟩ := E2.out
    replace e_2 := Aside0.mk e_2
    refine (laws_toMatrix.calls kk2 _ _ l0_0 t_aM_0 W2 (Kd.C_below HR0_0.out HB.out) HC0_0.out e_2.out).mono ?_
    rintro e w2 ⟨v2_0, rfl, h2_0, hb⟩
    clear e_2
    have HO2_0 := OwnS.new (b := w.heap.size) h2_0 HB.out.size
    clear h2_0
    have zc2 := Aside0.mk hb.size
    replace hcaM_0 := pw_cell_below hb hcaM_0
    replace hlaM : w.heap.size < w2.heap.size := Nat.lt_of_lt_of_le hlaM hb.size
    replace HB := Aside0.mk (below_on HB.out HB.out.size hb)
    clear hb
    obtain ⟨A2_0, c2_0, rfl⟩ := HO2_0.slice
    go_wp2_with fail
    refine calls_named fun W3 hW => ?_
    have hs : Below w2.heap.size w2 W3 := by rw [hW]; repeat (first | exact Below.refl _ _ | apply below_alloc | apply below_drew1 | apply pw_below_drewN)
    clear hW
    replace hcaM_0 := pw_cell_below hs hcaM_0
    replace HO2_0 := HO2_0.below hs
    replace hlaM : w.heap.size < W3.heap.size := Nat.lt_of_lt_of_le hlaM hs.size
    replace HB := Aside0.mk (below_on HB.out HB.out.size hs)
    have zs3 := Aside0.mk hs.size
    clear hs
    obtain ⟨kk3, e_3⟩ := E4.out
    replace e_3 := Aside0.mk e_3
    refine (spec_InverseOf.calls kk3 _ _ t_aM_0 r_0 r_1 W3 HO2_0.C HO2_0.cap e_3.out).mono ?_
    rintro e w3 ⟨v3_0, rfl, h3_0, hb⟩
    clear e_3
    have HO3_0 := OwnN.new (b := w.heap.size) h3_0 HB.out.size
    clear h3_0
    have zc3 := Aside0.mk hb.size
    replace hcaM_0 := pw_cell_below hb hcaM_0
    replace HO2_0 := HO2_0.below hb
    replace hlaM : w.heap.size < w3.heap.size := Nat.lt_of_lt_of_le hlaM hb.size
    replace HB := Aside0.mk (below_on HB.out HB.out.size hb)
    clear hb
    obtain ⟨A3_0, c3_0, rfl⟩ := HO3_0.slice
    go_wp2_with fail
    refine calls_named fun W4 hW => ?_
    have hs : Below w3.heap.size w3 W4 := by rw [hW]; repeat (first | exact Below.refl _ _ | apply below_alloc | apply below_drew1 | apply pw_below_drewN)
    have hcw0_0 : W4.cell? ⟨w3.heap.size, 0, none⟩ = some (.slice A3_0 r_0.length c3_0) := by rw [hW]; go_simp
    have hlw0 : w3.heap.size < W4.heap.size := by rw [hW]; simp <;> omega
    have zlw0 := Aside0.mk hlw0
    clear hW
    replace hcaM_0 := pw_cell_below hs hcaM_0
    replace HO2_0 := HO2_0.below hs
    replace HO3_0 := HO3_0.below hs
    replace hlaM : w.heap.size < W4.heap.size := Nat.lt_of_lt_of_le hlaM hs.size
    replace HB := Aside0.mk (below_on HB.out HB.out.size hs)
    have zs4 := Aside0.mk hs.size
    clear hs
    obtain ⟨kk4, e_4⟩ := E2.out
    replace e_4 := Aside0.mk e_4
    refine (laws_toMatrix.calls kk4 _ _ l0_0 t_aM_0 W4 (Kd.C_below HR0_0.out HB.out) HC0_0.out e_4.out).mono ?_
    rintro e w4 ⟨v4_0, rfl, h4_0, hb⟩
    clear e_4
    have HO4_0 := OwnS.new (b := w.heap.size) h4_0 HB.out.size
    clear h4_0
    have zc4 := Aside0.mk hb.size
    replace hcaM_0 := pw_cell_below hb hcaM_0
    replace hcw0_0 := pw_cell_below hb hcw0_0
    replace HO2_0 := HO2_0.below hb
    replace HO3_0 := HO3_0.below hb
    replace hlaM : w.heap.size < w4.heap.size := Nat.lt_of_lt_of_le hlaM hb.size
    replace hlw0 : w3.heap.size < w4.heap.size := Nat.lt_of_lt_of_le hlw0 hb.size
    replace HB := Aside0.mk (below_on HB.out HB.out.size hb)
    clear hb
    obtain ⟨A4_0, c4_0, rfl⟩ := HO4_0.slice
    go_wp2_with fail
    refine calls_named fun W5 hW => ?_
    have hs : Below w4.heap.size w4 W5 := by rw [hW]; repeat (first | exact Below.refl _ _ | apply below_alloc | apply below_drew1 | apply pw_below_drewN)
    have hcx0_0 : W5.cell? ⟨w4.heap.size, 0, none⟩ = some (.slice A4_0 t_aM_0.length c4_0) := by rw [hW]; go_simp
    have hlx0 : w4.heap.size < W5.heap.size := by rw [hW]; simp <;> omega
    have zlx0 := Aside0.mk hlx0
    clear hW
    replace hcaM_0 := pw_cell_below hs hcaM_0
    replace hcw0_0 := pw_cell_below hs hcw0_0
    replace HO2_0 := HO2_0.below hs
    replace HO3_0 := HO3_0.below hs
    replace HO4_0 := HO4_0.below hs
    replace hlaM : w.heap.size < W5.heap.size := Nat.lt_of_lt_of_le hlaM hs.size
    replace hlw0 : w3.heap.size < W5.heap.size := Nat.lt_of_lt_of_le hlw0 hs.size
    replace HB := Aside0.mk (below_on HB.out HB.out.size hs)
    have zs5 := Aside0.mk hs.size
    clear hs
    refine (impl_InverseOf.calls _ _ t_aM_0 r_0 r_1 W5 HO4_0.C HO4_0.cap E5.out).mono ?_
    rintro e w5 ⟨v5_0, rfl, h5_0, hb⟩
    have HO5_0 := OwnS.new (b := w.heap.size) h5_0 HB.out.size
    clear h5_0
    have zc5 := Aside0.mk hb.size
    replace hcaM_0 := pw_cell_below hb hcaM_0
    replace hcw0_0 := pw_cell_below hb hcw0_0
    replace hcx0_0 := pw_cell_below hb hcx0_0
    replace HO2_0 := HO2_0.below hb
    replace HO3_0 := HO3_0.below hb
    replace HO4_0 := HO4_0.below hb
    replace hlaM : w.heap.size < w5.heap.size := Nat.lt_of_lt_of_le hlaM hb.size
    replace hlw0 : w3.heap.size < w5.heap.size := Nat.lt_of_lt_of_le hlw0 hb.size
    replace hlx0 : w4.heap.size < w5.heap.size := Nat.lt_of_lt_of_le hlx0 hb.size
    replace HB := Aside0.mk (below_on HB.out HB.out.size hb)
    clear hb
    obtain ⟨A5_0, c5_0, rfl⟩ := HO5_0.slice
    go_wp2_with fail
    refine calls_named fun W6 hW => ?_
    have hs : Below w5.heap.size w5 W6 := by rw [hW]; repeat (first | exact Below.refl _ _ | apply below_alloc | apply below_drew1 | apply pw_below_drewN)
    have hcg0_0 : W6.cell? ⟨w5.heap.size, 0, none⟩ = some (.slice A5_0 r_0.length c5_0) := by rw [hW]; go_simp
    have hlg0 : w5.heap.size < W6.heap.size := by rw [hW]; simp <;> omega
    have zlg0 := Aside0.mk hlg0
    clear hW
    replace hcaM_0 := pw_cell_below hs hcaM_0
    replace hcw0_0 := pw_cell_below hs hcw0_0
    replace hcx0_0 := pw_cell_below hs hcx0_0
    replace HO2_0 := HO2_0.below hs
    replace HO3_0 := HO3_0.below hs
    replace HO4_0 := HO4_0.below hs
    replace HO5_0 := HO5_0.below hs
    replace hlaM : w.heap.size < W6.heap.size := Nat.lt_of_lt_of_le hlaM hs.size
    replace hlw0 : w3.heap.size < W6.heap.size := Nat.lt_of_lt_of_le hlw0 hs.size
    replace hlx0 : w4.heap.size < W6.heap.size := Nat.lt_of_lt_of_le hlx0 hs.size
    replace HB := Aside0.mk (below_on HB.out HB.out.size hs)
    have zs6 := Aside0.mk hs.size
    clear hs
    obtain ⟨kk6, e_6⟩ := E6.out
    replace e_6 := Aside0.mk e_6
    refine (laws_eqMatrix.calls kk6 _ _ r_0 _ _ r_0 true W6 HO5_0.C HO5_0.cap HO3_0.C HO3_0.cap e_6.out).mono ?_
    rintro e w6 ⟨rfl, hb⟩
    clear e_6
    have zc6 := Aside0.mk hb.size
    replace hcaM_0 := pw_cell_below hb hcaM_0
    replace hcw0_0 := pw_cell_below hb hcw0_0
    replace hcx0_0 := pw_cell_below hb hcx0_0
    replace hcg0_0 := pw_cell_below hb hcg0_0
    replace HO2_0 := HO2_0.below hb
    replace HO3_0 := HO3_0.below hb
    replace HO4_0 := HO4_0.below hb
    replace HO5_0 := HO5_0.below hb
    replace hlaM : w.heap.size < w6.heap.size := Nat.lt_of_lt_of_le hlaM hb.size
    replace hlw0 : w3.heap.size < w6.heap.size := Nat.lt_of_lt_of_le hlw0 hb.size
    replace hlx0 : w4.heap.size < w6.heap.size := Nat.lt_of_lt_of_le hlx0 hb.size
    replace hlg0 : w5.heap.size < w6.heap.size := Nat.lt_of_lt_of_le hlg0 hb.size
    replace HB := Aside0.mk (below_on HB.out HB.out.size hb)
    clear hb
    go_wp2_with fail
    have hd : Below w6.heap.size w6 w6.drew := below_drew1 (Below.refl _ _)
    refine start_ (n := 5) (S := fun w' => w'.cell? ⟨w4.heap.size, 0, none⟩ = some (.slice A4_0 t_aM_0.length c4_0) ∧ w'.cell? ⟨w.heap.size, 0, none⟩ = some (.slice A0_0 l0_0.length c0_0)) (ds := []) #[false, false, false, false, false] (by kernel_rfl) rfl rfl ⟨pw_cell_below hd hcx0_0, pw_cell_below hd hcaM_0⟩ (fun hHeld => ?_)
    generalize w6.drew = W7 at hd hHeld ⊢
    have zs7 := Aside0.mk hd.size
    replace hcaM_0 := pw_cell_below hd hcaM_0
    replace hcw0_0 := pw_cell_below hd hcw0_0
    replace hcx0_0 := pw_cell_below hd hcx0_0
    replace hcg0_0 := pw_cell_below hd hcg0_0
    replace HO2_0 := HO2_0.below hd
    replace HO3_0 := HO3_0.below hd
    replace HO4_0 := HO4_0.below hd
    replace HO5_0 := HO5_0.below hd
    replace hlaM : w.heap.size < W7.heap.size := Nat.lt_of_lt_of_le hlaM hd.size
    replace hlw0 : w3.heap.size < W7.heap.size := Nat.lt_of_lt_of_le hlw0 hd.size
    replace hlx0 : w4.heap.size < W7.heap.size := Nat.lt_of_lt_of_le hlx0 hd.size
    replace hlg0 : w5.heap.size < W7.heap.size := Nat.lt_of_lt_of_le hlg0 hd.size
    replace HB := Aside0.mk (below_on HB.out HB.out.size hd)
    clear hd
    refine take_ (i := 0) (N := some 41) (v := ?_) (a' := ?_) #[true, false, false, false, false] rfl rfl (by kernel_rfl) (fun _ _ _ h => h) (Or.inl ⟨by rfl, ?_⟩) hHeld ?_ ?_
    rotate_left
    · rintro w' ⟨s0, s1⟩
      go_simp
      with_reducible rfl
    rotate_left
    · simp only [Act.put, List.setIfInBounds_toArray, List.set_cons_zero, List.set_cons_succ, i64_w, i32_w]
      rfl
    refine take_ (i := 1) (N := some 42) (v := ?_) (a' := ?_) #[true, true, false, false, false] rfl rfl (by kernel_rfl) (fun _ _ _ h => h) (Or.inl ⟨by rfl, ?_⟩) hHeld ?_ ?_
    rotate_left
    · rintro w' ⟨s0, s1⟩
      go_simp
      with_reducible rfl
    rotate_left
    · simp only [Act.put, List.setIfInBounds_toArray, List.set_cons_zero, List.set_cons_succ, i64_w, i32_w]
      rfl
    refine one_ (i := 2) (N := some 43) #[true, true, true, false, false] rfl rfl (by kernel_rfl) (by decide) (fun K hK => ?_)
    refine goes_ Try.func27 (by kernel_rfl) rfl #[.agg #[.slice A0_0 l0_0.length c0_0]] (by rfl) rfl rfl (by (try simp only [List.map_toArray, List.map_cons, List.map_nil]); first | done | rfl | (simp only [List.length_drop, List.length_take]; rfl)) ?_
    obtain ⟨kk8, e_8⟩ := E2.out
    replace e_8 := Aside0.mk e_8
    refine (laws_toMatrix.calls kk8 _ _ l0_0 t_aM_0 W7 (Kd.C_below HR0_0.out HB.out) HC0_0.out e_8.out).mono ?_
    rintro e w8 ⟨v8_0, rfl, h8_0, hb⟩
    refine ⟨_, rfl, ?_⟩
    clear e_8
    have HO8_0 := OwnS.new (b := w.heap.size) h8_0 HB.out.size
    clear h8_0
    have zc8 := Aside0.mk hb.size
    replace hcaM_0 := pw_cell_below hb hcaM_0
    replace hcw0_0 := pw_cell_below hb hcw0_0
    replace hcx0_0 := pw_cell_below hb hcx0_0
    replace hcg0_0 := pw_cell_below hb hcg0_0
    replace HO2_0 := HO2_0.below hb
    replace HO3_0 := HO3_0.below hb
    replace HO4_0 := HO4_0.below hb
    replace HO5_0 := HO5_0.below hb
    replace hlaM : w.heap.size < w8.heap.size := Nat.lt_of_lt_of_le hlaM hb.size
    replace hlw0 : w3.heap.size < w8.heap.size := Nat.lt_of_lt_of_le hlw0 hb.size
    replace hlx0 : w4.heap.size < w8.heap.size := Nat.lt_of_lt_of_le hlx0 hb.size
    replace hlg0 : w5.heap.size < w8.heap.size := Nat.lt_of_lt_of_le hlg0 hb.size
    replace HB := Aside0.mk (below_on HB.out HB.out.size hb)
    clear hb
    obtain ⟨A8_0, c8_0, rfl⟩ := HO8_0.slice
    refine hK.out _ _ ⟨hcx0_0, hcaM_0⟩ (fun hHeld => ?_)
    clear hK K
    refine norm_ (a' := ?_) ?_ ?_
    rotate_left
    · show Act.put _ (some 43) _ = _
      simp only [Act.put, List.setIfInBounds_toArray, List.set_cons_zero, List.set_cons_succ, i64_w, i32_w]
      rfl
    refine one_ (i := 3) (N := some 44) #[true, true, true, true, false] rfl rfl (by kernel_rfl) (by decide) (fun K hK => ?_)
    refine goes_ Try.func29 (by kernel_rfl) rfl #[.agg #[.slice A4_0 t_aM_0.length c4_0], .agg #[.slice A8_0 t_aM_0.length c8_0]] (by rfl) rfl rfl (by (try simp only [List.map_toArray, List.map_cons, List.map_nil]); first | done | rfl | (simp only [List.length_drop, List.length_take]; rfl)) ?_
    obtain ⟨kk9, e_9⟩ := E7.out
    replace e_9 := Aside0.mk e_9
    refine (laws_eqMatrix.calls kk9 _ _ t_aM_0 _ _ t_aM_0 true w8 HO4_0.C HO4_0.cap HO8_0.C HO8_0.cap e_9.out).mono ?_
    rintro e w9 ⟨rfl, hb⟩
    refine ⟨_, rfl, ?_⟩
    clear e_9
    have zc9 := Aside0.mk hb.size
    replace hcaM_0 := pw_cell_below hb hcaM_0
    replace hcw0_0 := pw_cell_below hb hcw0_0
    replace hcx0_0 := pw_cell_below hb hcx0_0
    replace hcg0_0 := pw_cell_below hb hcg0_0
    replace HO2_0 := HO2_0.below hb
    replace HO3_0 := HO3_0.below hb
    replace HO4_0 := HO4_0.below hb
    replace HO5_0 := HO5_0.below hb
    replace HO8_0 := HO8_0.below hb
    replace hlaM : w.heap.size < w9.heap.size := Nat.lt_of_lt_of_le hlaM hb.size
    replace hlw0 : w3.heap.size < w9.heap.size := Nat.lt_of_lt_of_le hlw0 hb.size
    replace hlx0 : w4.heap.size < w9.heap.size := Nat.lt_of_lt_of_le hlx0 hb.size
    replace hlg0 : w5.heap.size < w9.heap.size := Nat.lt_of_lt_of_le hlg0 hb.size
    replace HB := Aside0.mk (below_on HB.out HB.out.size hb)
    clear hb
    refine hK.out _ _ ⟨hcx0_0, hcaM_0⟩ (fun hHeld => ?_)
    clear hK K
    refine norm_ (a' := ?_) ?_ ?_
    rotate_left
    · show Act.put _ (some 44) _ = _
      simp only [Act.put, List.setIfInBounds_toArray, List.set_cons_zero, List.set_cons_succ, i64_w, i32_w]
      rfl
    refine pure_ (i := 4) (N := some 45) (v := ?_) (a' := ?_) #[true, true, true, true, true] rfl rfl (by kernel_rfl) (fun _ _ _ h => h) (Or.inl ⟨by rfl, ?_⟩) ?_ ?_
    rotate_left
    · intro w'
      go_simp
      with_reducible rfl
    rotate_left
    · simp only [Act.put, List.setIfInBounds_toArray, List.set_cons_zero, List.set_cons_succ, i64_w, i32_w]
      rfl
    refine done_ (by kernel_rfl) ?_
    go_wp2_with fail
    refine calls_named fun W10 hW => ?_
    have hs : Below w9.heap.size w9 W10 := by rw [hW]; repeat (first | exact Below.refl _ _ | apply below_alloc | apply below_drew1 | apply pw_below_drewN)
    clear hW
    replace hcaM_0 := pw_cell_below hs hcaM_0
    replace hcw0_0 := pw_cell_below hs hcw0_0
    replace hcx0_0 := pw_cell_below hs hcx0_0
    replace hcg0_0 := pw_cell_below hs hcg0_0
    replace HO2_0 := HO2_0.below hs
    replace HO3_0 := HO3_0.below hs
    replace HO4_0 := HO4_0.below hs
    replace HO5_0 := HO5_0.below hs
    replace HO8_0 := HO8_0.below hs
    replace hlaM : w.heap.size < W10.heap.size := Nat.lt_of_lt_of_le hlaM hs.size
    replace hlw0 : w3.heap.size < W10.heap.size := Nat.lt_of_lt_of_le hlw0 hs.size
    replace hlx0 : w4.heap.size < W10.heap.size := Nat.lt_of_lt_of_le hlx0 hs.size
    replace hlg0 : w5.heap.size < W10.heap.size := Nat.lt_of_lt_of_le hlg0 hs.size
    replace HB := Aside0.mk (below_on HB.out HB.out.size hs)
    have zs10 := Aside0.mk hs.size
    clear hs
    refine (laws_markMatrix.calls (fun k => W4.heap.size ≤ k ∧ k < w4.heap.size) _ t_aM_0 1 w W10 HB.out HO4_0.out HMB.out (by have := HT0.out; omega) (by have := HT0.out; omega) (by have := HT0.out; omega)).mono ?_
    rintro e w10 ⟨rfl, hS, hB, hk⟩
    replace HO4_0 := OwnS.mk hS
    clear hS
    have zc10 := Aside0.mk hk.1
    replace hcaM_0 := cell_kept hcaM_0 hk (fun h3_ => by have h4_ : W4.heap.size ≤ w.heap.size ∧ w.heap.size < w4.heap.size := h3_; clear h3_; have := zlaM.out; have := zs1.out; have := zc1.out; have := zs2.out; have := zc2.out; have := zs3.out; have := zc3.out; have := zlw0.out; have := zs4.out; have := zc4.out; have := zlx0.out; have := zs5.out; have := zc5.out; have := zlg0.out; have := zs6.out; have := zc6.out; have := zs7.out; have := zc8.out; have := zc9.out; have := zs10.out; have := zc10.out; omega)
    replace hcw0_0 := cell_kept hcw0_0 hk (fun h3_ => by have h4_ : W4.heap.size ≤ w3.heap.size ∧ w3.heap.size < w4.heap.size := h3_; clear h3_; have := zlaM.out; have := zs1.out; have := zc1.out; have := zs2.out; have := zc2.out; have := zs3.out; have := zc3.out; have := zlw0.out; have := zs4.out; have := zc4.out; have := zlx0.out; have := zs5.out; have := zc5.out; have := zlg0.out; have := zs6.out; have := zc6.out; have := zs7.out; have := zc8.out; have := zc9.out; have := zs10.out; have := zc10.out; omega)
    replace hcx0_0 := cell_kept hcx0_0 hk (fun h3_ => by have h4_ : W4.heap.size ≤ w4.heap.size ∧ w4.heap.size < w4.heap.size := h3_; clear h3_; have := zlaM.out; have := zs1.out; have := zc1.out; have := zs2.out; have := zc2.out; have := zs3.out; have := zc3.out; have := zlw0.out; have := zs4.out; have := zc4.out; have := zlx0.out; have := zs5.out; have := zc5.out; have := zlg0.out; have := zs6.out; have := zc6.out; have := zs7.out; have := zc8.out; have := zc9.out; have := zs10.out; have := zc10.out; omega)
    replace hcg0_0 := cell_kept hcg0_0 hk (fun h3_ => by have h4_ : W4.heap.size ≤ w5.heap.size ∧ w5.heap.size < w4.heap.size := h3_; clear h3_; have := zlaM.out; have := zs1.out; have := zc1.out; have := zs2.out; have := zc2.out; have := zs3.out; have := zc3.out; have := zlw0.out; have := zs4.out; have := zc4.out; have := zlx0.out; have := zs5.out; have := zc5.out; have := zlg0.out; have := zs6.out; have := zc6.out; have := zs7.out; have := zc8.out; have := zc9.out; have := zs10.out; have := zc10.out; omega)
    replace HO2_0 := HO2_0.kept hk (fun k_ h1_ h2_ h3_ => by have := zlaM.out; have := zs1.out; have := zc1.out; have := zs2.out; have := zc2.out; have := zs3.out; have := zc3.out; have := zlw0.out; have := zs4.out; have := zc4.out; have := zlx0.out; have := zs5.out; have := zc5.out; have := zlg0.out; have := zs6.out; have := zc6.out; have := zs7.out; have := zc8.out; have := zc9.out; have := zs10.out; have := zc10.out; obtain ⟨h4_, h5_⟩ := h3_; omega)
    replace HO3_0 := HO3_0.kept hk (fun k_ h1_ h2_ h3_ => by have := zlaM.out; have := zs1.out; have := zc1.out; have := zs2.out; have := zc2.out; have := zs3.out; have := zc3.out; have := zlw0.out; have := zs4.out; have := zc4.out; have := zlx0.out; have := zs5.out; have := zc5.out; have := zlg0.out; have := zs6.out; have := zc6.out; have := zs7.out; have := zc8.out; have := zc9.out; have := zs10.out; have := zc10.out; obtain ⟨h4_, h5_⟩ := h3_; omega)
    replace HO5_0 := HO5_0.kept hk (fun k_ h1_ h2_ h3_ => by have := zlaM.out; have := zs1.out; have := zc1.out; have := zs2.out; have := zc2.out; have := zs3.out; have := zc3.out; have := zlw0.out; have := zs4.out; have := zc4.out; have := zlx0.out; have := zs5.out; have := zc5.out; have := zlg0.out; have := zs6.out; have := zc6.out; have := zs7.out; have := zc8.out; have := zc9.out; have := zs10.out; have := zc10.out; obtain ⟨h4_, h5_⟩ := h3_; omega)
    replace HO8_0 := HO8_0.kept hk (fun k_ h1_ h2_ h3_ => by have := zlaM.out; have := zs1.out; have := zc1.out; have := zs2.out; have := zc2.out; have := zs3.out; have := zc3.out; have := zlw0.out; have := zs4.out; have := zc4.out; have := zlx0.out; have := zs5.out; have := zc5.out; have := zlg0.out; have := zs6.out; have := zc6.out; have := zs7.out; have := zc8.out; have := zc9.out; have := zs10.out; have := zc10.out; obtain ⟨h4_, h5_⟩ := h3_; omega)
    replace hlaM : w.heap.size < w10.heap.size := Nat.lt_of_lt_of_le hlaM hk.1
    replace hlw0 : w3.heap.size < w10.heap.size := Nat.lt_of_lt_of_le hlw0 hk.1
    replace hlx0 : w4.heap.size < w10.heap.size := Nat.lt_of_lt_of_le hlx0 hk.1
    replace hlg0 : w5.heap.size < w10.heap.size := Nat.lt_of_lt_of_le hlg0 hk.1
    replace HB := Aside0.mk hB
    clear hB hk
    go_wp2_with fail
    refine calls_named fun W11 hW => ?_
    have hs : Below w10.heap.size w10 W11 := by rw [hW]; repeat (first | exact Below.refl _ _ | apply below_alloc | apply below_drew1 | apply pw_below_drewN)
    clear hW
    replace hcaM_0 := pw_cell_below hs hcaM_0
    replace hcw0_0 := pw_cell_below hs hcw0_0
    replace hcx0_0 := pw_cell_below hs hcx0_0
    replace hcg0_0 := pw_cell_below hs hcg0_0
    replace HO2_0 := HO2_0.below hs
    replace HO3_0 := HO3_0.below hs
    replace HO4_0 := HO4_0.below hs
    replace HO5_0 := HO5_0.below hs
    replace HO8_0 := HO8_0.below hs
    replace hlaM : w.heap.size < W11.heap.size := Nat.lt_of_lt_of_le hlaM hs.size
    replace hlw0 : w3.heap.size < W11.heap.size := Nat.lt_of_lt_of_le hlw0 hs.size
    replace hlx0 : w4.heap.size < W11.heap.size := Nat.lt_of_lt_of_le hlx0 hs.size
    replace hlg0 : w5.heap.size < W11.heap.size := Nat.lt_of_lt_of_le hlg0 hs.size
    replace HB := Aside0.mk (below_on HB.out HB.out.size hs)
    have zs11 := Aside0.mk hs.size
    clear hs
    obtain ⟨kk11, e_11⟩ := E6.out
    replace e_11 := Aside0.mk e_11
    refine (laws_eqMatrix.calls kk11 _ _ r_0 _ _ r_0 true W11 HO5_0.C HO5_0.cap HO3_0.C HO3_0.cap e_11.out).mono ?_
    rintro e w11 ⟨rfl, hb⟩
    clear e_11
    have zc11 := Aside0.mk hb.size
    replace hcaM_0 := pw_cell_below hb hcaM_0
    replace hcw0_0 := pw_cell_below hb hcw0_0
    replace hcx0_0 := pw_cell_below hb hcx0_0
    replace hcg0_0 := pw_cell_below hb hcg0_0
    replace HO2_0 := HO2_0.below hb
    replace HO3_0 := HO3_0.below hb
    replace HO4_0 := HO4_0.below hb
    replace HO5_0 := HO5_0.below hb
    replace HO8_0 := HO8_0.below hb
    replace hlaM : w.heap.size < w11.heap.size := Nat.lt_of_lt_of_le hlaM hb.size
    replace hlw0 : w3.heap.size < w11.heap.size := Nat.lt_of_lt_of_le hlw0 hb.size
    replace hlx0 : w4.heap.size < w11.heap.size := Nat.lt_of_lt_of_le hlx0 hb.size
    replace hlg0 : w5.heap.size < w11.heap.size := Nat.lt_of_lt_of_le hlg0 hb.size
    replace HB := Aside0.mk (below_on HB.out HB.out.size hb)
    clear hb
    go_wp2_with fail
    refine calls_named fun W12 hW => ?_
    have hs : Below w11.heap.size w11 W12 := by rw [hW]; repeat (first | exact Below.refl _ _ | apply below_alloc | apply below_drew1 | apply pw_below_drewN)
    clear hW
    replace hcaM_0 := pw_cell_below hs hcaM_0
    replace hcw0_0 := pw_cell_below hs hcw0_0
    replace hcx0_0 := pw_cell_below hs hcx0_0
    replace hcg0_0 := pw_cell_below hs hcg0_0
    replace HO2_0 := HO2_0.below hs
    replace HO3_0 := HO3_0.below hs
    replace HO4_0 := HO4_0.below hs
    replace HO5_0 := HO5_0.below hs
    replace HO8_0 := HO8_0.below hs
    replace hlaM : w.heap.size < W12.heap.size := Nat.lt_of_lt_of_le hlaM hs.size
    replace hlw0 : w3.heap.size < W12.heap.size := Nat.lt_of_lt_of_le hlw0 hs.size
    replace hlx0 : w4.heap.size < W12.heap.size := Nat.lt_of_lt_of_le hlx0 hs.size
    replace hlg0 : w5.heap.size < W12.heap.size := Nat.lt_of_lt_of_le hlg0 hs.size
    replace HB := Aside0.mk (below_on HB.out HB.out.size hs)
    have zs12 := Aside0.mk hs.size
    clear hs
    refine (laws_markMatrix.calls (fun k => W5.heap.size ≤ k ∧ k < w5.heap.size) _ r_0 1 w W12 HB.out HO5_0.out HMB.out (by have := HT0.out; have := HT1.out; omega) (by have := HT0.out; have := HT1.out; omega) (by have := HT0.out; have := HT1.out; omega)).mono ?_
    rintro e w12 ⟨rfl, hS, hB, hk⟩
    replace HO5_0 := OwnS.mk hS
    clear hS
    have zc12 := Aside0.mk hk.1
    replace hcaM_0 := cell_kept hcaM_0 hk (fun h3_ => by have h4_ : W5.heap.size ≤ w.heap.size ∧ w.heap.size < w5.heap.size := h3_; clear h3_; have := zlaM.out; have := zs1.out; have := zc1.out; have := zs2.out; have := zc2.out; have := zs3.out; have := zc3.out; have := zlw0.out; have := zs4.out; have := zc4.out; have := zlx0.out; have := zs5.out; have := zc5.out; have := zlg0.out; have := zs6.out; have := zc6.out; have := zs7.out; have := zc8.out; have := zc9.out; have := zs10.out; have := zc10.out; have := zs11.out; have := zc11.out; have := zs12.out; have := zc12.out; omega)
    replace hcw0_0 := cell_kept hcw0_0 hk (fun h3_ => by have h4_ : W5.heap.size ≤ w3.heap.size ∧ w3.heap.size < w5.heap.size := h3_; clear h3_; have := zlaM.out; have := zs1.out; have := zc1.out; have := zs2.out; have := zc2.out; have := zs3.out; have := zc3.out; have := zlw0.out; have := zs4.out; have := zc4.out; have := zlx0.out; have := zs5.out; have := zc5.out; have := zlg0.out; have := zs6.out; have := zc6.out; have := zs7.out; have := zc8.out; have := zc9.out; have := zs10.out; have := zc10.out; have := zs11.out; have := zc11.out; have := zs12.out; have := zc12.out; omega)
    replace hcx0_0 := cell_kept hcx0_0 hk (fun h3_ => by have h4_ : W5.heap.size ≤ w4.heap.size ∧ w4.heap.size < w5.heap.size := h3_; clear h3_; have := zlaM.out; have := zs1.out; have := zc1.out; have := zs2.out; have := zc2.out; have := zs3.out; have := zc3.out; have := zlw0.out; have := zs4.out; have := zc4.out; have := zlx0.out; have := zs5.out; have := zc5.out; have := zlg0.out; have := zs6.out; have := zc6.out; have := zs7.out; have := zc8.out; have := zc9.out; have := zs10.out; have := zc10.out; have := zs11.out; have := zc11.out; have := zs12.out; have := zc12.out; omega)
    replace hcg0_0 := cell_kept hcg0_0 hk (fun h3_ => by have h4_ : W5.heap.size ≤ w5.heap.size ∧ w5.heap.size < w5.heap.size := h3_; clear h3_; have := zlaM.out; have := zs1.out; have := zc1.out; have := zs2.out; have := zc2.out; have := zs3.out; have := zc3.out; have := zlw0.out; have := zs4.out; have := zc4.out; have := zlx0.out; have := zs5.out; have := zc5.out; have := zlg0.out; have := zs6.out; have := zc6.out; have := zs7.out; have := zc8.out; have := zc9.out; have := zs10.out; have := zc10.out; have := zs11.out; have := zc11.out; have := zs12.out; have := zc12.out; omega)
    replace HO2_0 := HO2_0.kept hk (fun k_ h1_ h2_ h3_ => by have := zlaM.out; have := zs1.out; have := zc1.out; have := zs2.out; have := zc2.out; have := zs3.out; have := zc3.out; have := zlw0.out; have := zs4.out; have := zc4.out; have := zlx0.out; have := zs5.out; have := zc5.out; have := zlg0.out; have := zs6.out; have := zc6.out; have := zs7.out; have := zc8.out; have := zc9.out; have := zs10.out; have := zc10.out; have := zs11.out; have := zc11.out; have := zs12.out; have := zc12.out; obtain ⟨h4_, h5_⟩ := h3_; omega)
    replace HO3_0 := HO3_0.kept hk (fun k_ h1_ h2_ h3_ => by have := zlaM.out; have := zs1.out; have := zc1.out; have := zs2.out; have := zc2.out; have := zs3.out; have := zc3.out; have := zlw0.out; have := zs4.out; have := zc4.out; have := zlx0.out; have := zs5.out; have := zc5.out; have := zlg0.out; have := zs6.out; have := zc6.out; have := zs7.out; have := zc8.out; have := zc9.out; have := zs10.out; have := zc10.out; have := zs11.out; have := zc11.out; have := zs12.out; have := zc12.out; obtain ⟨h4_, h5_⟩ := h3_; omega)
    replace HO4_0 := HO4_0.kept hk (fun k_ h1_ h2_ h3_ => by have := zlaM.out; have := zs1.out; have := zc1.out; have := zs2.out; have := zc2.out; have := zs3.out; have := zc3.out; have := zlw0.out; have := zs4.out; have := zc4.out; have := zlx0.out; have := zs5.out; have := zc5.out; have := zlg0.out; have := zs6.out; have := zc6.out; have := zs7.out; have := zc8.out; have := zc9.out; have := zs10.out; have := zc10.out; have := zs11.out; have := zc11.out; have := zs12.out; have := zc12.out; obtain ⟨h4_, h5_⟩ := h3_; omega)
    replace HO8_0 := HO8_0.kept hk (fun k_ h1_ h2_ h3_ => by have := zlaM.out; have := zs1.out; have := zc1.out; have := zs2.out; have := zc2.out; have := zs3.out; have := zc3.out; have := zlw0.out; have := zs4.out; have := zc4.out; have := zlx0.out; have := zs5.out; have := zc5.out; have := zlg0.out; have := zs6.out; have := zc6.out; have := zs7.out; have := zc8.out; have := zc9.out; have := zs10.out; have := zc10.out; have := zs11.out; have := zc11.out; have := zs12.out; have := zc12.out; obtain ⟨h4_, h5_⟩ := h3_; omega)
    replace hlaM : w.heap.size < w12.heap.size := Nat.lt_of_lt_of_le hlaM hk.1
    replace hlw0 : w3.heap.size < w12.heap.size := Nat.lt_of_lt_of_le hlw0 hk.1
    replace hlx0 : w4.heap.size < w12.heap.size := Nat.lt_of_lt_of_le hlx0 hk.1
    replace hlg0 : w5.heap.size < w12.heap.size := Nat.lt_of_lt_of_le hlg0 hk.1
    replace HB := Aside0.mk hB
    clear hB hk
    go_wp2_with fail
    refine calls_named fun W13 hW => ?_
    have hs : Below w12.heap.size w12 W13 := by rw [hW]; repeat (first | exact Below.refl _ _ | apply below_alloc | apply below_drew1 | apply pw_below_drewN)
    clear hW
    replace hcaM_0 := pw_cell_below hs hcaM_0
    replace hcw0_0 := pw_cell_below hs hcw0_0
    replace hcx0_0 := pw_cell_below hs hcx0_0
    replace hcg0_0 := pw_cell_below hs hcg0_0
    replace HO2_0 := HO2_0.below hs
    replace HO3_0 := HO3_0.below hs
    replace HO4_0 := HO4_0.below hs
    replace HO5_0 := HO5_0.below hs
    replace HO8_0 := HO8_0.below hs
    replace hlaM : w.heap.size < W13.heap.size := Nat.lt_of_lt_of_le hlaM hs.size
    replace hlw0 : w3.heap.size < W13.heap.size := Nat.lt_of_lt_of_le hlw0 hs.size
    replace hlx0 : w4.heap.size < W13.heap.size := Nat.lt_of_lt_of_le hlx0 hs.size
    replace hlg0 : w5.heap.size < W13.heap.size := Nat.lt_of_lt_of_le hlg0 hs.size
    replace HB := Aside0.mk (below_on HB.out HB.out.size hs)
    have zs13 := Aside0.mk hs.size
    clear hs
    obtain ⟨kk13, e_13⟩ := E8.out
    replace e_13 := Aside0.mk e_13
    refine calls_of_args (args' := #[.agg #[.slice A5_0 (markSS 1 r_0).length c5_0], .int .i64 1]) (by simp [markSS_length, markB_length, markI_length, markTS_length]) ?_
    refine (laws_heldMatrix.calls kk13 _ _ (markSS 1 r_0) 1 (1 + ((totSS r_0 : Nat) : Int)) W13 HO5_0.C HO5_0.cap e_13.out).mono ?_
    rintro e w13 ⟨rfl, hb⟩
    clear e_13
    have zc13 := Aside0.mk hb.size
    replace hcaM_0 := pw_cell_below hb hcaM_0
    replace hcw0_0 := pw_cell_below hb hcw0_0
    replace hcx0_0 := pw_cell_below hb hcx0_0
    replace hcg0_0 := pw_cell_below hb hcg0_0
    replace HO2_0 := HO2_0.below hb
    replace HO3_0 := HO3_0.below hb
    replace HO4_0 := HO4_0.below hb
    replace HO5_0 := HO5_0.below hb
    replace HO8_0 := HO8_0.below hb
    replace hlaM : w.heap.size < w13.heap.size := Nat.lt_of_lt_of_le hlaM hb.size
    replace hlw0 : w3.heap.size < w13.heap.size := Nat.lt_of_lt_of_le hlw0 hb.size
    replace hlx0 : w4.heap.size < w13.heap.size := Nat.lt_of_lt_of_le hlx0 hb.size
    replace hlg0 : w5.heap.size < w13.heap.size := Nat.lt_of_lt_of_le hlg0 hb.size
    replace HB := Aside0.mk (below_on HB.out HB.out.size hb)
    clear hb
    go_wp2_with fail
    refine calls_named fun W14 hW => ?_
    have hs : Below w13.heap.size w13 W14 := by rw [hW]; repeat (first | exact Below.refl _ _ | apply below_alloc | apply below_drew1 | apply pw_below_drewN)
    clear hW
    replace hcaM_0 := pw_cell_below hs hcaM_0
    replace hcw0_0 := pw_cell_below hs hcw0_0
    replace hcx0_0 := pw_cell_below hs hcx0_0
    replace hcg0_0 := pw_cell_below hs hcg0_0
    replace HO2_0 := HO2_0.below hs
    replace HO3_0 := HO3_0.below hs
    replace HO4_0 := HO4_0.below hs
    replace HO5_0 := HO5_0.below hs
    replace HO8_0 := HO8_0.below hs
    replace hlaM : w.heap.size < W14.heap.size := Nat.lt_of_lt_of_le hlaM hs.size
    replace hlw0 : w3.heap.size < W14.heap.size := Nat.lt_of_lt_of_le hlw0 hs.size
    replace hlx0 : w4.heap.size < W14.heap.size := Nat.lt_of_lt_of_le hlx0 hs.size
    replace hlg0 : w5.heap.size < W14.heap.size := Nat.lt_of_lt_of_le hlg0 hs.size
    replace HB := Aside0.mk (below_on HB.out HB.out.size hs)
    have zs14 := Aside0.mk hs.size
    clear hs
    obtain ⟨kk14, e_14⟩ := E2.out
    replace e_14 := Aside0.mk e_14
    refine (laws_toMatrix.calls kk14 _ _ l0_0 t_aM_0 W14 (Kd.C_below HR0_0.out HB.out) HC0_0.out e_14.out).mono ?_
    rintro e w14 ⟨v14_0, rfl, h14_0, hb⟩
    clear e_14
    have HO14_0 := OwnS.new (b := w.heap.size) h14_0 HB.out.size
    clear h14_0
    have zc14 := Aside0.mk hb.size
    replace hcaM_0 := pw_cell_below hb hcaM_0
    replace hcw0_0 := pw_cell_below hb hcw0_0
    replace hcx0_0 := pw_cell_below hb hcx0_0
    replace hcg0_0 := pw_cell_below hb hcg0_0
    replace HO2_0 := HO2_0.below hb
    replace HO3_0 := HO3_0.below hb
    replace HO4_0 := HO4_0.below hb
    replace HO5_0 := HO5_0.below hb
    replace HO8_0 := HO8_0.below hb
    replace hlaM : w.heap.size < w14.heap.size := Nat.lt_of_lt_of_le hlaM hb.size
    replace hlw0 : w3.heap.size < w14.heap.size := Nat.lt_of_lt_of_le hlw0 hb.size
    replace hlx0 : w4.heap.size < w14.heap.size := Nat.lt_of_lt_of_le hlx0 hb.size
    replace hlg0 : w5.heap.size < w14.heap.size := Nat.lt_of_lt_of_le hlg0 hb.size
    replace HB := Aside0.mk (below_on HB.out HB.out.size hb)
    clear hb
    obtain ⟨A14_0, c14_0, rfl⟩ := HO14_0.slice
    go_wp2_with fail
    refine calls_named fun W15 hW => ?_
    have hs : Below w14.heap.size w14 W15 := by rw [hW]; repeat (first | exact Below.refl _ _ | apply below_alloc | apply below_drew1 | apply pw_below_drewN)
    clear hW
    replace hcaM_0 := pw_cell_below hs hcaM_0
    replace hcw0_0 := pw_cell_below hs hcw0_0
    replace hcx0_0 := pw_cell_below hs hcx0_0
    replace hcg0_0 := pw_cell_below hs hcg0_0
    replace HO2_0 := HO2_0.below hs
    replace HO3_0 := HO3_0.below hs
    replace HO4_0 := HO4_0.below hs
    replace HO5_0 := HO5_0.below hs
    replace HO8_0 := HO8_0.below hs
    replace HO14_0 := HO14_0.below hs
    replace hlaM : w.heap.size < W15.heap.size := Nat.lt_of_lt_of_le hlaM hs.size
    replace hlw0 : w3.heap.size < W15.heap.size := Nat.lt_of_lt_of_le hlw0 hs.size
    replace hlx0 : w4.heap.size < W15.heap.size := Nat.lt_of_lt_of_le hlx0 hs.size
    replace hlg0 : w5.heap.size < W15.heap.size := Nat.lt_of_lt_of_le hlg0 hs.size
    replace HB := Aside0.mk (below_on HB.out HB.out.size hs)
    have zs15 := Aside0.mk hs.size
    clear hs
    refine (impl_InverseOf.calls _ _ t_aM_0 r_0 r_1 W15 HO14_0.C HO14_0.cap E5.out).mono ?_
    rintro e w15 ⟨v15_0, rfl, h15_0, hb⟩
    have HO15_0 := OwnS.new (b := w.heap.size) h15_0 HB.out.size
    clear h15_0
    have zc15 := Aside0.mk hb.size
    replace hcaM_0 := pw_cell_below hb hcaM_0
    replace hcw0_0 := pw_cell_below hb hcw0_0
    replace hcx0_0 := pw_cell_below hb hcx0_0
    replace hcg0_0 := pw_cell_below hb hcg0_0
    replace HO2_0 := HO2_0.below hb
    replace HO3_0 := HO3_0.below hb
    replace HO4_0 := HO4_0.below hb
    replace HO5_0 := HO5_0.below hb
    replace HO8_0 := HO8_0.below hb
    replace HO14_0 := HO14_0.below hb
    replace hlaM : w.heap.size < w15.heap.size := Nat.lt_of_lt_of_le hlaM hb.size
    replace hlw0 : w3.heap.size < w15.heap.size := Nat.lt_of_lt_of_le hlw0 hb.size
    replace hlx0 : w4.heap.size < w15.heap.size := Nat.lt_of_lt_of_le hlx0 hb.size
    replace hlg0 : w5.heap.size < w15.heap.size := Nat.lt_of_lt_of_le hlg0 hb.size
    replace HB := Aside0.mk (below_on HB.out HB.out.size hb)
    clear hb
    obtain ⟨A15_0, c15_0, rfl⟩ := HO15_0.slice
    go_wp2_with fail
    refine calls_named fun W16 hW => ?_
    have hs : Below w15.heap.size w15 W16 := by rw [hW]; repeat (first | exact Below.refl _ _ | apply below_alloc | apply below_drew1 | apply pw_below_drewN)
    have hch0_0 : W16.cell? ⟨w15.heap.size, 0, none⟩ = some (.slice A15_0 r_0.length c15_0) := by rw [hW]; go_simp
    have hlh0 : w15.heap.size < W16.heap.size := by rw [hW]; simp <;> omega
    have zlh0 := Aside0.mk hlh0
    clear hW
    replace hcaM_0 := pw_cell_below hs hcaM_0
    replace hcw0_0 := pw_cell_below hs hcw0_0
    replace hcx0_0 := pw_cell_below hs hcx0_0
    replace hcg0_0 := pw_cell_below hs hcg0_0
    replace HO2_0 := HO2_0.below hs
    replace HO3_0 := HO3_0.below hs
    replace HO4_0 := HO4_0.below hs
    replace HO5_0 := HO5_0.below hs
    replace HO8_0 := HO8_0.below hs
    replace HO14_0 := HO14_0.below hs
    replace HO15_0 := HO15_0.below hs
    replace hlaM : w.heap.size < W16.heap.size := Nat.lt_of_lt_of_le hlaM hs.size
    replace hlw0 : w3.heap.size < W16.heap.size := Nat.lt_of_lt_of_le hlw0 hs.size
    replace hlx0 : w4.heap.size < W16.heap.size := Nat.lt_of_lt_of_le hlx0 hs.size
    replace hlg0 : w5.heap.size < W16.heap.size := Nat.lt_of_lt_of_le hlg0 hs.size
    replace HB := Aside0.mk (below_on HB.out HB.out.size hs)
    have zs16 := Aside0.mk hs.size
    clear hs
    obtain ⟨kk16, e_16⟩ := E6.out
    replace e_16 := Aside0.mk e_16
    refine (laws_eqMatrix.calls kk16 _ _ r_0 _ _ r_0 true W16 HO15_0.C HO15_0.cap HO3_0.C HO3_0.cap e_16.out).mono ?_
    rintro e w16 ⟨rfl, hb⟩
    clear e_16
    have zc16 := Aside0.mk hb.size
    replace hcaM_0 := pw_cell_below hb hcaM_0
    replace hcw0_0 := pw_cell_below hb hcw0_0
    replace hcx0_0 := pw_cell_below hb hcx0_0
    replace hcg0_0 := pw_cell_below hb hcg0_0
    replace hch0_0 := pw_cell_below hb hch0_0
    replace HO2_0 := HO2_0.below hb
    replace HO3_0 := HO3_0.below hb
    replace HO4_0 := HO4_0.below hb
    replace HO5_0 := HO5_0.below hb
    replace HO8_0 := HO8_0.below hb
    replace HO14_0 := HO14_0.below hb
    replace HO15_0 := HO15_0.below hb
    replace hlaM : w.heap.size < w16.heap.size := Nat.lt_of_lt_of_le hlaM hb.size
    replace hlw0 : w3.heap.size < w16.heap.size := Nat.lt_of_lt_of_le hlw0 hb.size
    replace hlx0 : w4.heap.size < w16.heap.size := Nat.lt_of_lt_of_le hlx0 hb.size
    replace hlg0 : w5.heap.size < w16.heap.size := Nat.lt_of_lt_of_le hlg0 hb.size
    replace hlh0 : w15.heap.size < w16.heap.size := Nat.lt_of_lt_of_le hlh0 hb.size
    replace HB := Aside0.mk (below_on HB.out HB.out.size hb)
    clear hb
    go_wp2_with fail
    refine calls_named fun W17 hW => ?_
    have hs : Below w16.heap.size w16 W17 := by rw [hW]; repeat (first | exact Below.refl _ _ | apply below_alloc | apply below_drew1 | apply pw_below_drewN)
    clear hW
    replace hcaM_0 := pw_cell_below hs hcaM_0
    replace hcw0_0 := pw_cell_below hs hcw0_0
    replace hcx0_0 := pw_cell_below hs hcx0_0
    replace hcg0_0 := pw_cell_below hs hcg0_0
    replace hch0_0 := pw_cell_below hs hch0_0
    replace HO2_0 := HO2_0.below hs
    replace HO3_0 := HO3_0.below hs
    replace HO4_0 := HO4_0.below hs
    replace HO5_0 := HO5_0.below hs
    replace HO8_0 := HO8_0.below hs
    replace HO14_0 := HO14_0.below hs
    replace HO15_0 := HO15_0.below hs
    replace hlaM : w.heap.size < W17.heap.size := Nat.lt_of_lt_of_le hlaM hs.size
    replace hlw0 : w3.heap.size < W17.heap.size := Nat.lt_of_lt_of_le hlw0 hs.size
    replace hlx0 : w4.heap.size < W17.heap.size := Nat.lt_of_lt_of_le hlx0 hs.size
    replace hlg0 : w5.heap.size < W17.heap.size := Nat.lt_of_lt_of_le hlg0 hs.size
    replace hlh0 : w15.heap.size < W17.heap.size := Nat.lt_of_lt_of_le hlh0 hs.size
    replace HB := Aside0.mk (below_on HB.out HB.out.size hs)
    have zs17 := Aside0.mk hs.size
    clear hs
    obtain ⟨kk17, e_17⟩ := E8.out
    replace e_17 := Aside0.mk e_17
    refine calls_of_args (args' := #[.agg #[.slice A5_0 (markSS 1 r_0).length c5_0], .int .i64 1]) (by simp [markSS_length, markB_length, markI_length, markTS_length]) ?_
    refine (laws_heldMatrix.calls kk17 _ _ (markSS 1 r_0) 1 (1 + ((totSS r_0 : Nat) : Int)) W17 HO5_0.C HO5_0.cap e_17.out).mono ?_
    rintro e w17 ⟨rfl, hb⟩
    clear e_17
    have zc17 := Aside0.mk hb.size
    replace hcaM_0 := pw_cell_below hb hcaM_0
    replace hcw0_0 := pw_cell_below hb hcw0_0
    replace hcx0_0 := pw_cell_below hb hcx0_0
    replace hcg0_0 := pw_cell_below hb hcg0_0
    replace hch0_0 := pw_cell_below hb hch0_0
    replace HO2_0 := HO2_0.below hb
    replace HO3_0 := HO3_0.below hb
    replace HO4_0 := HO4_0.below hb
    replace HO5_0 := HO5_0.below hb
    replace HO8_0 := HO8_0.below hb
    replace HO14_0 := HO14_0.below hb
    replace HO15_0 := HO15_0.below hb
    replace hlaM : w.heap.size < w17.heap.size := Nat.lt_of_lt_of_le hlaM hb.size
    replace hlw0 : w3.heap.size < w17.heap.size := Nat.lt_of_lt_of_le hlw0 hb.size
    replace hlx0 : w4.heap.size < w17.heap.size := Nat.lt_of_lt_of_le hlx0 hb.size
    replace hlg0 : w5.heap.size < w17.heap.size := Nat.lt_of_lt_of_le hlg0 hb.size
    replace hlh0 : w15.heap.size < w17.heap.size := Nat.lt_of_lt_of_le hlh0 hb.size
    replace HB := Aside0.mk (below_on HB.out HB.out.size hb)
    clear hb
    go_wp2
    go_ret
    exact ⟨rfl, by repeat (first | exact HB.out | apply below_alloc | apply below_drew1 | apply pw_below_drewN)⟩
end Go.Proofs.Ytajikfnpcobnpaa.PFnExactInverseOf
