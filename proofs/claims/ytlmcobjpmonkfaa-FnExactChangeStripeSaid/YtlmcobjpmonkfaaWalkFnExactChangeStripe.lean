/- The walk through the law FnExactChangeStripe, out of the contracts of what it calls. -/
import Derived.Test.YtlmcobjpmonkfaaPFnExactChangeStripex
import Derived.Test.YtlmcobjpmonkfaaLawKit
import Derived.Test.YtlmcobjpmonkfaaTxt
namespace Go.Proofs.Ytlmcobjpmonkfaa.PFnExactChangeStripe
open Go.RowKit Go.Proofs.YtlmcobjpmonkfaaW.PrintWords Go.Proofs.YtlmcobjpmonkfaaW.PrintLast Go.Proofs.YtlmcobjpmonkfaaW.PrintMore Go.Proofs.Ytlmcobjpmonkfaa.Gf Go.Proofs.Ytlmcobjpmonkfaa.Kit Go.Proofs.Ytlmcobjpmonkfaa.LawKit
set_option linter.unusedVariables false
set_option linter.unusedSimpArgs false
def laws_FnExactChangeStripe.Facts0 (l0_0 : List (ByteArray)) (l0_1 : List (ByteArray)) (a1 : Int) (a2 : ByteArray) : Prop := (1048576 < (a2.size : Int))
def laws_FnExactChangeStripe.Facts1 (l0_0 : List (ByteArray)) (l0_1 : List (ByteArray)) (a1 : Int) (a2 : ByteArray) : Prop := ∃ s_1 : Int, (¬ 1048576 < (a2.size : Int)) ∧ (∃ k, laws_szStripe.f k l0_0 l0_1 1048576 = some s_1) ∧ (s_1 < 0)
def laws_FnExactChangeStripe.Facts2 (l0_0 : List (ByteArray)) (l0_1 : List (ByteArray)) (a1 : Int) (a2 : ByteArray) : Prop := ∃ s_1 : Int, ∃ t_aS_0 : List (ByteArray), ∃ t_aS_1 : List (ByteArray), ∃ r_0 : List (ByteArray), ∃ r_1 : List (ByteArray), ∃ r_2 : Bool, (¬ 1048576 < (a2.size : Int)) ∧ (∃ k, laws_szStripe.f k l0_0 l0_1 1048576 = some s_1) ∧ (¬ s_1 < 0) ∧ (∃ k, laws_toStripe.f k l0_0 l0_1 = some (t_aS_0, t_aS_1)) ∧ (∃ k, spec_ChangeStripe.f k t_aS_0 t_aS_1 a1 a2 = some (r_0, r_1, r_2)) ∧ (∃ k, impl_ChangeStripe.f k t_aS_0 t_aS_1 a1 a2 = some (r_0, r_1, r_2)) ∧ (∃ k, laws_eqStripe.f k r_0 r_1 r_0 r_1 = some true) ∧ (∃ k, laws_eqStripe.f k t_aS_0 t_aS_1 t_aS_0 t_aS_1 = some true) ∧ (∃ k, laws_heldStripe.f k (markTS 1 r_0.length) (markTS (1 + ((r_0.length : Nat) : Int)) r_1.length) 1 = some (1 + ((r_0.length : Nat) : Int) + ((r_1.length : Nat) : Int))) ∧ (∀ (l m : List ByteArray) (a : Int), 0 ≤ a → a + l.length + m.length < 4611686018427387904 → ∃ k, laws_markStripe.f k l m a = some (a + ((l.length : Nat) : Int) + ((m.length : Nat) : Int), markTS a l.length, markTS (a + ((l.length : Nat) : Int)) m.length)) ∧ (t_aS_0.length < 1152921504606846976) ∧ (t_aS_1.length < 1152921504606846976) ∧ (r_0.length < 1152921504606846976) ∧ (r_1.length < 1152921504606846976)
def laws_FnExactChangeStripe.Facts (l0_0 : List (ByteArray)) (l0_1 : List (ByteArray)) (a1 : Int) (a2 : ByteArray) : Prop := laws_FnExactChangeStripe.Facts0 l0_0 l0_1 a1 a2 ∨ laws_FnExactChangeStripe.Facts1 l0_0 l0_1 a1 a2 ∨ laws_FnExactChangeStripe.Facts2 l0_0 l0_1 a1 a2
set_option maxHeartbeats 16000000 in
set_option maxRecDepth 100000 in
theorem laws_FnExactChangeStripe.calls (A0_0 : Option Addr) (c0_0 : Nat) (l0_0 : List (ByteArray)) (A0_1 : Option Addr) (c0_1 : Nat) (l0_1 : List (ByteArray)) (a1 : Int) (a2 : ByteArray) (w : World) (hr0_0 : Kd.C Kd.string w A0_0 l0_0.length l0_0) (hc0_0 : l0_0.length ≤ c0_0) (hr0_1 : Kd.C Kd.string w A0_1 l0_1.length l0_1) (hc0_1 : l0_1.length ≤ c0_1) (h : laws_FnExactChangeStripe.Facts l0_0 l0_1 a1 a2) :
    Calls Try.prog 9 #[.agg #[.slice A0_0 l0_0.length c0_0, .slice A0_1 l0_1.length c0_1], .int .i64 a1, .string a2] w fun e w' => e = .returned (.bool true) ∧ Below w.heap.size w w' := by
  have HR0_0 := Aside0.mk hr0_0
  have HC0_0 := Aside0.mk hc0_0
  clear hr0_0 hc0_0
  have HR0_1 := Aside0.mk hr0_1
  have HC0_1 := Aside0.mk hc0_1
  clear hr0_1 hc0_1
  have HB := Aside0.mk (Below.refl w.heap.size w)
  rcases h with h | h | h
  · have G1 : 1048576 < (a2.size : Int) := h
    replace G1 := Aside0.mk G1
    go_enter Try.func9, Try.ntmps9
    have hg1 := decide_eq_true (show 1048576 < (a2.size : Int) by have := G1.out; omega)
    have hg1b : decide (1048576 < a2.size) = true := decide_eq_true (by have := G1.out; omega)
    go_wp2
    go_ret
    exact ⟨rfl, by repeat (first | exact HB.out | apply below_alloc | apply below_drew1 | apply pw_below_drewN)⟩
  · obtain ⟨s_1, G1, E0, G2⟩ := h
    replace G1 := Aside0.mk G1
    replace E0 := Aside0.mk E0
    replace G2 := Aside0.mk G2
    go_enter Try.func9, Try.ntmps9
    have hg1 := decide_eq_false (show ¬ (1048576 < (a2.size : Int)) by have := G1.out; omega)
    have hg1b : decide (1048576 < a2.size) = false := decide_eq_false (by have := G1.out; omega)
    go_wp2_with fail
    refine calls_named fun W1 hW => ?_
    have hs : Below w.heap.size w W1 := by rw [hW]; repeat (first | exact Below.refl _ _ | apply below_alloc | apply below_drew1 | apply pw_below_drewN)
    have hcaS_0 : W1.cell? ⟨w.heap.size, 0, none⟩ = some (.slice A0_0 l0_0.length c0_0) := by rw [hW]; go_simp
    have hcaS_1 : W1.cell? ⟨w.heap.size, 1, none⟩ = some (.slice A0_1 l0_1.length c0_1) := by rw [hW]; go_simp
    have hlaS : w.heap.size < W1.heap.size := by rw [hW]; simp <;> omega
    have zlaS := Aside0.mk hlaS
    clear hW
    replace HB := Aside0.mk (below_on HB.out HB.out.size hs)
    have zs1 := Aside0.mk hs.size
    clear hs
    obtain ⟨kk1, e_1⟩ := E0.out
    replace e_1 := Aside0.mk e_1
    refine (laws_szStripe.calls kk1 _ _ l0_0 _ _ l0_1 1048576 s_1 W1 (Kd.C_below HR0_0.out HB.out) HC0_0.out (Kd.C_below HR0_1.out HB.out) HC0_1.out e_1.out).mono ?_
    rintro e w1 ⟨rfl, hb⟩
    clear e_1
    have zc1 := Aside0.mk hb.size
    replace hcaS_0 := pw_cell_below hb hcaS_0
    replace hcaS_1 := pw_cell_below hb hcaS_1
    replace hlaS : w.heap.size < w1.heap.size := Nat.lt_of_lt_of_le hlaS hb.size
    replace HB := Aside0.mk (below_on HB.out HB.out.size hb)
    clear hb
    have hg2 := decide_eq_true (show s_1 < 0 by have := G2.out; omega)
    go_wp2
    go_ret
    exact ⟨rfl, by repeat (first | exact HB.out | apply below_alloc | apply below_drew1 | apply pw_below_drewN)⟩
  · obtain ⟨s_1, t_aS_0, t_aS_1, r_0, r_1, r_2, G1, E0, G2, E2, E4, E5, E6, E7, E8, HMT2, HT0, HT1, HT2, HT3⟩ := h
    replace G1 := Aside0.mk G1
    replace E0 := Aside0.mk E0
    replace G2 := Aside0.mk G2
    replace E2 := Aside0.mk E2
    replace E4 := Aside0.mk E4
    replace E5 := Aside0.mk E5
    replace E6 := Aside0.mk E6
    replace E7 := Aside0.mk E7
    replace E8 := Aside0.mk E8
    replace HMT2 := Aside0.mk HMT2
    replace HT0 := Aside0.mk HT0
    replace HT1 := Aside0.mk HT1
    replace HT2 := Aside0.mk HT2
    replace HT3 := Aside0.mk HT3
    go_enter Try.func9, Try.ntmps9
    have hg1 := decide_eq_false (show ¬ (1048576 < (a2.size : Int)) by have := G1.out; omega)
    have hg1b : decide (1048576 < a2.size) = false := decide_eq_false (by have := G1.out; omega)
    go_wp2_with fail
    refine calls_named fun W1 hW => ?_
    have hs : Below w.heap.size w W1 := by rw [hW]; repeat (first | exact Below.refl _ _ | apply below_alloc | apply below_drew1 | apply pw_below_drewN)
    have hcaS_0 : W1.cell? ⟨w.heap.size, 0, none⟩ = some (.slice A0_0 l0_0.length c0_0) := by rw [hW]; go_simp
    have hcaS_1 : W1.cell? ⟨w.heap.size, 1, none⟩ = some (.slice A0_1 l0_1.length c0_1) := by rw [hW]; go_simp
    have hlaS : w.heap.size < W1.heap.size := by rw [hW]; simp <;> omega
    have zlaS := Aside0.mk hlaS
    clear hW
    replace HB := Aside0.mk (below_on HB.out HB.out.size hs)
    have zs1 := Aside0.mk hs.size
    clear hs
    obtain ⟨kk1, e_1⟩ := E0.out
    replace e_1 := Aside0.mk e_1
    refine (laws_szStripe.calls kk1 _ _ l0_0 _ _ l0_1 1048576 s_1 W1 (Kd.C_below HR0_0.out HB.out) HC0_0.out (Kd.C_below HR0_1.out HB.out) HC0_1.out e_1.out).mono ?_
    rintro e w1 ⟨rfl, hb⟩
    clear e_1
    have zc1 := Aside0.mk hb.size
    replace hcaS_0 := pw_cell_below hb hcaS_0
    replace hcaS_1 := pw_cell_below hb hcaS_1
    replace hlaS : w.heap.size < w1.heap.size := Nat.lt_of_lt_of_le hlaS hb.size
    replace HB := Aside0.mk (below_on HB.out HB.out.size hb)
    clear hb
    have hg2 := decide_eq_false (show ¬ (s_1 < 0) by have := G2.out; omega)
    go_wp2_with fail
    refine calls_named fun W2 hW => ?_
    have hs : Below w1.heap.size w1 W2 := by rw [hW]; repeat (first | exact Below.refl _ _ | apply below_alloc | apply below_drew1 | apply pw_below_drewN)
    clear hW
    replace hcaS_0 := pw_cell_below hs hcaS_0
    replace hcaS_1 := pw_cell_below hs hcaS_1
    replace hlaS : w.heap.size < W2.heap.size := Nat.lt_of_lt_of_le hlaS hs.size
    replace HB := Aside0.mk (below_on HB.out HB.out.size hs)
    have zs2 := Aside0.mk hs.size
    clear hs
    obtain ⟨kk2, e_2⟩ := E2.out
    replace e_2 := Aside0.mk e_2
    refine (laws_toStripe.calls kk2 _ _ l0_0 _ _ l0_1 t_aS_0 t_aS_1 W2 (Kd.C_below HR0_0.out HB.out) HC0_0.out (Kd.C_below HR0_1.out HB.out) HC0_1.out e_2.out).mono ?_
    rintro e w2 ⟨v2_0, v2_1, rfl, h2_0, h2_1, hb⟩
    clear e_2
    have HO2_0 := OwnR.new (b := w.heap.size) h2_0 HB.out.size
    have HO2_1 := OwnR.new (b := w.heap.size) h2_1 HB.out.size
    have HD2_0 : Aside0 (∀ k_, some k_ = (v2_0 : Value).ownBlock → ¬ some k_ = (v2_1 : Value).ownBlock) := ⟨fun k_ h_ => by have q_ := h2_0.1 k_ h_.symm; first | exact q_ | exact q_.1⟩
    clear h2_0
    clear h2_1
    have zc2 := Aside0.mk hb.size
    replace hcaS_0 := pw_cell_below hb hcaS_0
    replace hcaS_1 := pw_cell_below hb hcaS_1
    replace hlaS : w.heap.size < w2.heap.size := Nat.lt_of_lt_of_le hlaS hb.size
    replace HB := Aside0.mk (below_on HB.out HB.out.size hb)
    clear hb
    obtain ⟨A2_0, c2_0, rfl⟩ := HO2_0.slice
    obtain ⟨A2_1, c2_1, rfl⟩ := HO2_1.slice
    go_wp2_with fail
    refine calls_named fun W3 hW => ?_
    have hs : Below w2.heap.size w2 W3 := by rw [hW]; repeat (first | exact Below.refl _ _ | apply below_alloc | apply below_drew1 | apply pw_below_drewN)
    clear hW
    replace hcaS_0 := pw_cell_below hs hcaS_0
    replace hcaS_1 := pw_cell_below hs hcaS_1
    replace HO2_0 := HO2_0.below hs
    replace HO2_1 := HO2_1.below hs
    replace hlaS : w.heap.size < W3.heap.size := Nat.lt_of_lt_of_le hlaS hs.size
    replace HB := Aside0.mk (below_on HB.out HB.out.size hs)
    have zs3 := Aside0.mk hs.size
    clear hs
    obtain ⟨kk3, e_3⟩ := E4.out
    replace e_3 := Aside0.mk e_3
    refine (spec_ChangeStripe.calls kk3 _ _ t_aS_0 _ _ t_aS_1 a1 a2 r_0 r_1 r_2 W3 HO2_0.C HO2_0.cap HO2_1.C HO2_1.cap e_3.out).mono ?_
    rintro e w3 ⟨v3_0, v3_1, rfl, h3_0, h3_1, hb⟩
    clear e_3
    have HO3_0 := OwnR.new (b := w.heap.size) h3_0 HB.out.size
    have HO3_1 := OwnR.new (b := w.heap.size) h3_1 HB.out.size
    have HD3_0 : Aside0 (∀ k_, some k_ = (v3_0 : Value).ownBlock → ¬ some k_ = (v3_1 : Value).ownBlock) := ⟨fun k_ h_ => by have q_ := h3_0.1 k_ h_.symm; first | exact q_ | exact q_.1⟩
    clear h3_0
    clear h3_1
    have zc3 := Aside0.mk hb.size
    replace hcaS_0 := pw_cell_below hb hcaS_0
    replace hcaS_1 := pw_cell_below hb hcaS_1
    replace HO2_0 := HO2_0.below hb
    replace HO2_1 := HO2_1.below hb
    replace hlaS : w.heap.size < w3.heap.size := Nat.lt_of_lt_of_le hlaS hb.size
    replace HB := Aside0.mk (below_on HB.out HB.out.size hb)
    clear hb
    obtain ⟨A3_0, c3_0, rfl⟩ := HO3_0.slice
    obtain ⟨A3_1, c3_1, rfl⟩ := HO3_1.slice
    go_wp2_with fail
    refine calls_named fun W4 hW => ?_
    have hs : Below w3.heap.size w3 W4 := by rw [hW]; repeat (first | exact Below.refl _ _ | apply below_alloc | apply below_drew1 | apply pw_below_drewN)
    have hcw0_0 : W4.cell? ⟨w3.heap.size, 0, none⟩ = some (.slice A3_0 r_0.length c3_0) := by rw [hW]; go_simp
    have hcw0_1 : W4.cell? ⟨w3.heap.size, 1, none⟩ = some (.slice A3_1 r_1.length c3_1) := by rw [hW]; go_simp
    have hlw0 : w3.heap.size < W4.heap.size := by rw [hW]; simp <;> omega
    have zlw0 := Aside0.mk hlw0
    clear hW
    replace hcaS_0 := pw_cell_below hs hcaS_0
    replace hcaS_1 := pw_cell_below hs hcaS_1
    replace HO2_0 := HO2_0.below hs
    replace HO2_1 := HO2_1.below hs
    replace HO3_0 := HO3_0.below hs
    replace HO3_1 := HO3_1.below hs
    replace hlaS : w.heap.size < W4.heap.size := Nat.lt_of_lt_of_le hlaS hs.size
    replace HB := Aside0.mk (below_on HB.out HB.out.size hs)
    have zs4 := Aside0.mk hs.size
    clear hs
    obtain ⟨kk4, e_4⟩ := E2.out
    replace e_4 := Aside0.mk e_4
    refine (laws_toStripe.calls kk4 _ _ l0_0 _ _ l0_1 t_aS_0 t_aS_1 W4 (Kd.C_below HR0_0.out HB.out) HC0_0.out (Kd.C_below HR0_1.out HB.out) HC0_1.out e_4.out).mono ?_
    rintro e w4 ⟨v4_0, v4_1, rfl, h4_0, h4_1, hb⟩
    clear e_4
    have HO4_0 := OwnR.new (b := w.heap.size) h4_0 HB.out.size
    have HO4_1 := OwnR.new (b := w.heap.size) h4_1 HB.out.size
    have HD4_0 : Aside0 (∀ k_, some k_ = (v4_0 : Value).ownBlock → ¬ some k_ = (v4_1 : Value).ownBlock) := ⟨fun k_ h_ => by have q_ := h4_0.1 k_ h_.symm; first | exact q_ | exact q_.1⟩
    clear h4_0
    clear h4_1
    have zc4 := Aside0.mk hb.size
    replace hcaS_0 := pw_cell_below hb hcaS_0
    replace hcaS_1 := pw_cell_below hb hcaS_1
    replace hcw0_0 := pw_cell_below hb hcw0_0
    replace hcw0_1 := pw_cell_below hb hcw0_1
    replace HO2_0 := HO2_0.below hb
    replace HO2_1 := HO2_1.below hb
    replace HO3_0 := HO3_0.below hb
    replace HO3_1 := HO3_1.below hb
    replace hlaS : w.heap.size < w4.heap.size := Nat.lt_of_lt_of_le hlaS hb.size
    replace hlw0 : w3.heap.size < w4.heap.size := Nat.lt_of_lt_of_le hlw0 hb.size
    replace HB := Aside0.mk (below_on HB.out HB.out.size hb)
    clear hb
    obtain ⟨A4_0, c4_0, rfl⟩ := HO4_0.slice
    obtain ⟨A4_1, c4_1, rfl⟩ := HO4_1.slice
    go_wp2_with fail
    refine calls_named fun W5 hW => ?_
    have hs : Below w4.heap.size w4 W5 := by rw [hW]; repeat (first | exact Below.refl _ _ | apply below_alloc | apply below_drew1 | apply pw_below_drewN)
    have hcx0_0 : W5.cell? ⟨w4.heap.size, 0, none⟩ = some (.slice A4_0 t_aS_0.length c4_0) := by rw [hW]; go_simp
    have hcx0_1 : W5.cell? ⟨w4.heap.size, 1, none⟩ = some (.slice A4_1 t_aS_1.length c4_1) := by rw [hW]; go_simp
    have hlx0 : w4.heap.size < W5.heap.size := by rw [hW]; simp <;> omega
    have zlx0 := Aside0.mk hlx0
    clear hW
    replace hcaS_0 := pw_cell_below hs hcaS_0
    replace hcaS_1 := pw_cell_below hs hcaS_1
    replace hcw0_0 := pw_cell_below hs hcw0_0
    replace hcw0_1 := pw_cell_below hs hcw0_1
    replace HO2_0 := HO2_0.below hs
    replace HO2_1 := HO2_1.below hs
    replace HO3_0 := HO3_0.below hs
    replace HO3_1 := HO3_1.below hs
    replace HO4_0 := HO4_0.below hs
    replace HO4_1 := HO4_1.below hs
    replace hlaS : w.heap.size < W5.heap.size := Nat.lt_of_lt_of_le hlaS hs.size
    replace hlw0 : w3.heap.size < W5.heap.size := Nat.lt_of_lt_of_le hlw0 hs.size
    replace HB := Aside0.mk (below_on HB.out HB.out.size hs)
    have zs5 := Aside0.mk hs.size
    clear hs
    obtain ⟨kk5, e_5⟩ := E5.out
    replace e_5 := Aside0.mk e_5
    refine (impl_ChangeStripe.calls kk5 _ _ t_aS_0 _ _ t_aS_1 a1 a2 r_0 r_1 r_2 W5 HO4_0.C HO4_0.cap HO4_1.C HO4_1.cap e_5.out).mono ?_
    rintro e w5 ⟨v5_0, v5_1, rfl, h5_0, h5_1, hb⟩
    clear e_5
    have HO5_0 := OwnR.new (b := w.heap.size) h5_0 HB.out.size
    have HO5_1 := OwnR.new (b := w.heap.size) h5_1 HB.out.size
    have HD5_0 : Aside0 (∀ k_, some k_ = (v5_0 : Value).ownBlock → ¬ some k_ = (v5_1 : Value).ownBlock) := ⟨fun k_ h_ => by have q_ := h5_0.1 k_ h_.symm; first | exact q_ | exact q_.1⟩
    clear h5_0
    clear h5_1
    have zc5 := Aside0.mk hb.size
    replace hcaS_0 := pw_cell_below hb hcaS_0
    replace hcaS_1 := pw_cell_below hb hcaS_1
    replace hcw0_0 := pw_cell_below hb hcw0_0
    replace hcw0_1 := pw_cell_below hb hcw0_1
    replace hcx0_0 := pw_cell_below hb hcx0_0
    replace hcx0_1 := pw_cell_below hb hcx0_1
    replace HO2_0 := HO2_0.below hb
    replace HO2_1 := HO2_1.below hb
    replace HO3_0 := HO3_0.below hb
    replace HO3_1 := HO3_1.below hb
    replace HO4_0 := HO4_0.below hb
    replace HO4_1 := HO4_1.below hb
    replace hlaS : w.heap.size < w5.heap.size := Nat.lt_of_lt_of_le hlaS hb.size
    replace hlw0 : w3.heap.size < w5.heap.size := Nat.lt_of_lt_of_le hlw0 hb.size
    replace hlx0 : w4.heap.size < w5.heap.size := Nat.lt_of_lt_of_le hlx0 hb.size
    replace HB := Aside0.mk (below_on HB.out HB.out.size hb)
    clear hb
    obtain ⟨A5_0, c5_0, rfl⟩ := HO5_0.slice
    obtain ⟨A5_1, c5_1, rfl⟩ := HO5_1.slice
    go_wp2_with fail
    refine calls_named fun W6 hW => ?_
    have hs : Below w5.heap.size w5 W6 := by rw [hW]; repeat (first | exact Below.refl _ _ | apply below_alloc | apply below_drew1 | apply pw_below_drewN)
    have hcg0_0 : W6.cell? ⟨w5.heap.size, 0, none⟩ = some (.slice A5_0 r_0.length c5_0) := by rw [hW]; go_simp
    have hcg0_1 : W6.cell? ⟨w5.heap.size, 1, none⟩ = some (.slice A5_1 r_1.length c5_1) := by rw [hW]; go_simp
    have hlg0 : w5.heap.size < W6.heap.size := by rw [hW]; simp <;> omega
    have zlg0 := Aside0.mk hlg0
    clear hW
    replace hcaS_0 := pw_cell_below hs hcaS_0
    replace hcaS_1 := pw_cell_below hs hcaS_1
    replace hcw0_0 := pw_cell_below hs hcw0_0
    replace hcw0_1 := pw_cell_below hs hcw0_1
    replace hcx0_0 := pw_cell_below hs hcx0_0
    replace hcx0_1 := pw_cell_below hs hcx0_1
    replace HO2_0 := HO2_0.below hs
    replace HO2_1 := HO2_1.below hs
    replace HO3_0 := HO3_0.below hs
    replace HO3_1 := HO3_1.below hs
    replace HO4_0 := HO4_0.below hs
    replace HO4_1 := HO4_1.below hs
    replace HO5_0 := HO5_0.below hs
    replace HO5_1 := HO5_1.below hs
    replace hlaS : w.heap.size < W6.heap.size := Nat.lt_of_lt_of_le hlaS hs.size
    replace hlw0 : w3.heap.size < W6.heap.size := Nat.lt_of_lt_of_le hlw0 hs.size
    replace hlx0 : w4.heap.size < W6.heap.size := Nat.lt_of_lt_of_le hlx0 hs.size
    replace HB := Aside0.mk (below_on HB.out HB.out.size hs)
    have zs6 := Aside0.mk hs.size
    clear hs
    obtain ⟨kk6, e_6⟩ := E6.out
    replace e_6 := Aside0.mk e_6
    refine (laws_eqStripe.calls kk6 _ _ r_0 _ _ r_1 _ _ r_0 _ _ r_1 true W6 HO5_0.C HO5_0.cap HO5_1.C HO5_1.cap HO3_0.C HO3_0.cap HO3_1.C HO3_1.cap e_6.out).mono ?_
    rintro e w6 ⟨rfl, hb⟩
    clear e_6
    have zc6 := Aside0.mk hb.size
    replace hcaS_0 := pw_cell_below hb hcaS_0
    replace hcaS_1 := pw_cell_below hb hcaS_1
    replace hcw0_0 := pw_cell_below hb hcw0_0
    replace hcw0_1 := pw_cell_below hb hcw0_1
    replace hcx0_0 := pw_cell_below hb hcx0_0
    replace hcx0_1 := pw_cell_below hb hcx0_1
    replace hcg0_0 := pw_cell_below hb hcg0_0
    replace hcg0_1 := pw_cell_below hb hcg0_1
    replace HO2_0 := HO2_0.below hb
    replace HO2_1 := HO2_1.below hb
    replace HO3_0 := HO3_0.below hb
    replace HO3_1 := HO3_1.below hb
    replace HO4_0 := HO4_0.below hb
    replace HO4_1 := HO4_1.below hb
    replace HO5_0 := HO5_0.below hb
    replace HO5_1 := HO5_1.below hb
    replace hlaS : w.heap.size < w6.heap.size := Nat.lt_of_lt_of_le hlaS hb.size
    replace hlw0 : w3.heap.size < w6.heap.size := Nat.lt_of_lt_of_le hlw0 hb.size
    replace hlx0 : w4.heap.size < w6.heap.size := Nat.lt_of_lt_of_le hlx0 hb.size
    replace hlg0 : w5.heap.size < w6.heap.size := Nat.lt_of_lt_of_le hlg0 hb.size
    replace HB := Aside0.mk (below_on HB.out HB.out.size hb)
    clear hb
    go_wp2_with fail
    have hd : Below w6.heap.size w6 w6.drew := below_drew1 (Below.refl _ _)
    refine start_ (n := 5) (S := fun w' => w'.cell? ⟨w4.heap.size, 0, none⟩ = some (.slice A4_0 t_aS_0.length c4_0) ∧ w'.cell? ⟨w4.heap.size, 1, none⟩ = some (.slice A4_1 t_aS_1.length c4_1) ∧ w'.cell? ⟨w.heap.size, 0, none⟩ = some (.slice A0_0 l0_0.length c0_0) ∧ w'.cell? ⟨w.heap.size, 1, none⟩ = some (.slice A0_1 l0_1.length c0_1)) (ds := []) #[false, false, false, false, false] (by kernel_rfl) rfl rfl ⟨pw_cell_below hd hcx0_0, pw_cell_below hd hcx0_1, pw_cell_below hd hcaS_0, pw_cell_below hd hcaS_1⟩ (fun hHeld => ?_)
    generalize w6.drew = W7 at hd hHeld ⊢
    have zs7 := Aside0.mk hd.size
    replace hcaS_0 := pw_cell_below hd hcaS_0
    replace hcaS_1 := pw_cell_below hd hcaS_1
    replace hcw0_0 := pw_cell_below hd hcw0_0
    replace hcw0_1 := pw_cell_below hd hcw0_1
    replace hcx0_0 := pw_cell_below hd hcx0_0
    replace hcx0_1 := pw_cell_below hd hcx0_1
    replace hcg0_0 := pw_cell_below hd hcg0_0
    replace hcg0_1 := pw_cell_below hd hcg0_1
    replace HO2_0 := HO2_0.below hd
    replace HO2_1 := HO2_1.below hd
    replace HO3_0 := HO3_0.below hd
    replace HO3_1 := HO3_1.below hd
    replace HO4_0 := HO4_0.below hd
    replace HO4_1 := HO4_1.below hd
    replace HO5_0 := HO5_0.below hd
    replace HO5_1 := HO5_1.below hd
    replace hlaS : w.heap.size < W7.heap.size := Nat.lt_of_lt_of_le hlaS hd.size
    replace hlw0 : w3.heap.size < W7.heap.size := Nat.lt_of_lt_of_le hlw0 hd.size
    replace hlx0 : w4.heap.size < W7.heap.size := Nat.lt_of_lt_of_le hlx0 hd.size
    replace hlg0 : w5.heap.size < W7.heap.size := Nat.lt_of_lt_of_le hlg0 hd.size
    replace HB := Aside0.mk (below_on HB.out HB.out.size hd)
    clear hd
    refine take_ (i := 0) (N := some 52) (v := ?_) (a' := ?_) #[true, false, false, false, false] rfl rfl (by kernel_rfl) (fun _ _ _ h => h) (Or.inl ⟨by rfl, ?_⟩) hHeld ?_ ?_
    rotate_left
    · rintro w' ⟨s0, s1, s2, s3⟩
      go_simp
      with_reducible rfl
    rotate_left
    · simp only [Act.put, List.setIfInBounds_toArray, List.set_cons_zero, List.set_cons_succ, i64_w, i32_w]
      rfl
    refine take_ (i := 1) (N := some 53) (v := ?_) (a' := ?_) #[true, true, false, false, false] rfl rfl (by kernel_rfl) (fun _ _ _ h => h) (Or.inl ⟨by rfl, ?_⟩) hHeld ?_ ?_
    rotate_left
    · rintro w' ⟨s0, s1, s2, s3⟩
      go_simp
      with_reducible rfl
    rotate_left
    · simp only [Act.put, List.setIfInBounds_toArray, List.set_cons_zero, List.set_cons_succ, i64_w, i32_w]
      rfl
    refine one_ (i := 2) (N := some 54) #[true, true, true, false, false] rfl rfl (by kernel_rfl) (by decide) (fun K hK => ?_)
    refine goes_ Try.func17 (by kernel_rfl) rfl #[.agg #[.slice A0_0 l0_0.length c0_0, .slice A0_1 l0_1.length c0_1]] (by rfl) rfl rfl (by (try simp only [List.map_toArray, List.map_cons, List.map_nil]); first | done | rfl | (simp only [List.length_drop, List.length_take]; rfl)) ?_
    obtain ⟨kk8, e_8⟩ := E2.out
    replace e_8 := Aside0.mk e_8
    refine (laws_toStripe.calls kk8 _ _ l0_0 _ _ l0_1 t_aS_0 t_aS_1 W7 (Kd.C_below HR0_0.out HB.out) HC0_0.out (Kd.C_below HR0_1.out HB.out) HC0_1.out e_8.out).mono ?_
    rintro e w8 ⟨v8_0, v8_1, rfl, h8_0, h8_1, hb⟩
    refine ⟨_, rfl, ?_⟩
    clear e_8
    have HO8_0 := OwnR.new (b := w.heap.size) h8_0 HB.out.size
    have HO8_1 := OwnR.new (b := w.heap.size) h8_1 HB.out.size
    have HD8_0 : Aside0 (∀ k_, some k_ = (v8_0 : Value).ownBlock → ¬ some k_ = (v8_1 : Value).ownBlock) := ⟨fun k_ h_ => by have q_ := h8_0.1 k_ h_.symm; first | exact q_ | exact q_.1⟩
    clear h8_0
    clear h8_1
    have zc8 := Aside0.mk hb.size
    replace hcaS_0 := pw_cell_below hb hcaS_0
    replace hcaS_1 := pw_cell_below hb hcaS_1
    replace hcw0_0 := pw_cell_below hb hcw0_0
    replace hcw0_1 := pw_cell_below hb hcw0_1
    replace hcx0_0 := pw_cell_below hb hcx0_0
    replace hcx0_1 := pw_cell_below hb hcx0_1
    replace hcg0_0 := pw_cell_below hb hcg0_0
    replace hcg0_1 := pw_cell_below hb hcg0_1
    replace HO2_0 := HO2_0.below hb
    replace HO2_1 := HO2_1.below hb
    replace HO3_0 := HO3_0.below hb
    replace HO3_1 := HO3_1.below hb
    replace HO4_0 := HO4_0.below hb
    replace HO4_1 := HO4_1.below hb
    replace HO5_0 := HO5_0.below hb
    replace HO5_1 := HO5_1.below hb
    replace hlaS : w.heap.size < w8.heap.size := Nat.lt_of_lt_of_le hlaS hb.size
    replace hlw0 : w3.heap.size < w8.heap.size := Nat.lt_of_lt_of_le hlw0 hb.size
    replace hlx0 : w4.heap.size < w8.heap.size := Nat.lt_of_lt_of_le hlx0 hb.size
    replace hlg0 : w5.heap.size < w8.heap.size := Nat.lt_of_lt_of_le hlg0 hb.size
    replace HB := Aside0.mk (below_on HB.out HB.out.size hb)
    clear hb
    obtain ⟨A8_0, c8_0, rfl⟩ := HO8_0.slice
    obtain ⟨A8_1, c8_1, rfl⟩ := HO8_1.slice
    refine hK.out _ _ ⟨hcx0_0, hcx0_1, hcaS_0, hcaS_1⟩ (fun hHeld => ?_)
    clear hK K
    refine norm_ (a' := ?_) ?_ ?_
    rotate_left
    · show Act.put _ (some 54) _ = _
      simp only [Act.put, List.setIfInBounds_toArray, List.set_cons_zero, List.set_cons_succ, i64_w, i32_w]
      rfl
    refine one_ (i := 3) (N := some 55) #[true, true, true, true, false] rfl rfl (by kernel_rfl) (by decide) (fun K hK => ?_)
    refine goes_ Try.func20 (by kernel_rfl) rfl #[.agg #[.slice A4_0 t_aS_0.length c4_0, .slice A4_1 t_aS_1.length c4_1], .agg #[.slice A8_0 t_aS_0.length c8_0, .slice A8_1 t_aS_1.length c8_1]] (by rfl) rfl rfl (by (try simp only [List.map_toArray, List.map_cons, List.map_nil]); first | done | rfl | (simp only [List.length_drop, List.length_take]; rfl)) ?_
    obtain ⟨kk9, e_9⟩ := E7.out
    replace e_9 := Aside0.mk e_9
    refine (laws_eqStripe.calls kk9 _ _ t_aS_0 _ _ t_aS_1 _ _ t_aS_0 _ _ t_aS_1 true w8 HO4_0.C HO4_0.cap HO4_1.C HO4_1.cap HO8_0.C HO8_0.cap HO8_1.C HO8_1.cap e_9.out).mono ?_
    rintro e w9 ⟨rfl, hb⟩
    refine ⟨_, rfl, ?_⟩
    clear e_9
    have zc9 := Aside0.mk hb.size
    replace hcaS_0 := pw_cell_below hb hcaS_0
    replace hcaS_1 := pw_cell_below hb hcaS_1
    replace hcw0_0 := pw_cell_below hb hcw0_0
    replace hcw0_1 := pw_cell_below hb hcw0_1
    replace hcx0_0 := pw_cell_below hb hcx0_0
    replace hcx0_1 := pw_cell_below hb hcx0_1
    replace hcg0_0 := pw_cell_below hb hcg0_0
    replace hcg0_1 := pw_cell_below hb hcg0_1
    replace HO2_0 := HO2_0.below hb
    replace HO2_1 := HO2_1.below hb
    replace HO3_0 := HO3_0.below hb
    replace HO3_1 := HO3_1.below hb
    replace HO4_0 := HO4_0.below hb
    replace HO4_1 := HO4_1.below hb
    replace HO5_0 := HO5_0.below hb
    replace HO5_1 := HO5_1.below hb
    replace HO8_0 := HO8_0.below hb
    replace HO8_1 := HO8_1.below hb
    replace hlaS : w.heap.size < w9.heap.size := Nat.lt_of_lt_of_le hlaS hb.size
    replace hlw0 : w3.heap.size < w9.heap.size := Nat.lt_of_lt_of_le hlw0 hb.size
    replace hlx0 : w4.heap.size < w9.heap.size := Nat.lt_of_lt_of_le hlx0 hb.size
    replace hlg0 : w5.heap.size < w9.heap.size := Nat.lt_of_lt_of_le hlg0 hb.size
    replace HB := Aside0.mk (below_on HB.out HB.out.size hb)
    clear hb
    refine hK.out _ _ ⟨hcx0_0, hcx0_1, hcaS_0, hcaS_1⟩ (fun hHeld => ?_)
    clear hK K
    refine norm_ (a' := ?_) ?_ ?_
    rotate_left
    · show Act.put _ (some 55) _ = _
      simp only [Act.put, List.setIfInBounds_toArray, List.set_cons_zero, List.set_cons_succ, i64_w, i32_w]
      rfl
    refine pure_ (i := 4) (N := some 56) (v := ?_) (a' := ?_) #[true, true, true, true, true] rfl rfl (by kernel_rfl) (fun _ _ _ h => h) (Or.inl ⟨by rfl, ?_⟩) ?_ ?_
    rotate_left
    · intro w'
      go_simp
      with_reducible rfl
    rotate_left
    · simp only [Act.put, List.setIfInBounds_toArray, List.set_cons_zero, List.set_cons_succ, i64_w, i32_w]
      rfl
    refine done_ (by kernel_rfl) ?_
    go_wp2_with fail
    refine calls_named fun W10 hW => ?_
    have hs : Below w9.heap.size w9 W10 := by rw [hW]; repeat (first | exact Below.refl _ _ | apply below_alloc | apply below_drew1 | apply pw_below_drewN)
    clear hW
    replace hcaS_0 := pw_cell_below hs hcaS_0
    replace hcaS_1 := pw_cell_below hs hcaS_1
    replace hcw0_0 := pw_cell_below hs hcw0_0
    replace hcw0_1 := pw_cell_below hs hcw0_1
    replace hcx0_0 := pw_cell_below hs hcx0_0
    replace hcx0_1 := pw_cell_below hs hcx0_1
    replace hcg0_0 := pw_cell_below hs hcg0_0
    replace hcg0_1 := pw_cell_below hs hcg0_1
    replace HO2_0 := HO2_0.below hs
    replace HO2_1 := HO2_1.below hs
    replace HO3_0 := HO3_0.below hs
    replace HO3_1 := HO3_1.below hs
    replace HO4_0 := HO4_0.below hs
    replace HO4_1 := HO4_1.below hs
    replace HO5_0 := HO5_0.below hs
    replace HO5_1 := HO5_1.below hs
    replace HO8_0 := HO8_0.below hs
    replace HO8_1 := HO8_1.below hs
    replace hlaS : w.heap.size < W10.heap.size := Nat.lt_of_lt_of_le hlaS hs.size
    replace hlw0 : w3.heap.size < W10.heap.size := Nat.lt_of_lt_of_le hlw0 hs.size
    replace hlx0 : w4.heap.size < W10.heap.size := Nat.lt_of_lt_of_le hlx0 hs.size
    replace hlg0 : w5.heap.size < W10.heap.size := Nat.lt_of_lt_of_le hlg0 hs.size
    replace HB := Aside0.mk (below_on HB.out HB.out.size hs)
    have zs10 := Aside0.mk hs.size
    clear hs
    obtain ⟨kk10, e_10⟩ := HMT2.out t_aS_0 t_aS_1 1 (by have := HT0.out; have := HT1.out; omega) (by have := HT0.out; have := HT1.out; omega)
    replace e_10 := Aside0.mk e_10
    refine (laws_markStripe.calls kk10 (fun k => some k = (.slice A4_0 t_aS_0.length c4_0 : Value).ownBlock) _ t_aS_0 (fun k => some k = (.slice A4_1 t_aS_1.length c4_1 : Value).ownBlock) _ t_aS_1 1 _ _ _ w W10 HB.out (HO4_0.tight rfl) (fun k_ h1_ h2_ => HD4_0.out k_ h1_ h2_) (HO4_1.tight rfl) (fun k_ h1_ h2_ => HD4_0.out k_ h2_ h1_) e_10.out).mono ?_
    rintro e w10 ⟨rfl, hS, hS2, hB, hk⟩
    clear e_10
    replace hk := kept_mono (P' := fun k => W4.heap.size ≤ k ∧ k < w4.heap.size) hk (fun k_ h1_ => h1_.elim (fun h2_ => HO4_0.inside h2_) (fun h2_ => HO4_1.inside h2_))
    replace HO4_0 := OwnR.marked2 rfl HO4_0 hS
    replace HO4_1 := OwnR.marked2 rfl HO4_1 hS2
    clear hS hS2
    have zc10 := Aside0.mk hk.1
    replace hcaS_0 := cell_kept hcaS_0 hk (fun h3_ => by have h4_ : W4.heap.size ≤ w.heap.size ∧ w.heap.size < w4.heap.size := h3_; clear h3_; have := zlaS.out; have := zs1.out; have := zc1.out; have := zs2.out; have := zc2.out; have := zs3.out; have := zc3.out; have := zlw0.out; have := zs4.out; have := zc4.out; have := zlx0.out; have := zs5.out; have := zc5.out; have := zlg0.out; have := zs6.out; have := zc6.out; have := zs7.out; have := zc8.out; have := zc9.out; have := zs10.out; have := zc10.out; omega)
    replace hcaS_1 := cell_kept hcaS_1 hk (fun h3_ => by have h4_ : W4.heap.size ≤ w.heap.size ∧ w.heap.size < w4.heap.size := h3_; clear h3_; have := zlaS.out; have := zs1.out; have := zc1.out; have := zs2.out; have := zc2.out; have := zs3.out; have := zc3.out; have := zlw0.out; have := zs4.out; have := zc4.out; have := zlx0.out; have := zs5.out; have := zc5.out; have := zlg0.out; have := zs6.out; have := zc6.out; have := zs7.out; have := zc8.out; have := zc9.out; have := zs10.out; have := zc10.out; omega)
    replace hcw0_0 := cell_kept hcw0_0 hk (fun h3_ => by have h4_ : W4.heap.size ≤ w3.heap.size ∧ w3.heap.size < w4.heap.size := h3_; clear h3_; have := zlaS.out; have := zs1.out; have := zc1.out; have := zs2.out; have := zc2.out; have := zs3.out; have := zc3.out; have := zlw0.out; have := zs4.out; have := zc4.out; have := zlx0.out; have := zs5.out; have := zc5.out; have := zlg0.out; have := zs6.out; have := zc6.out; have := zs7.out; have := zc8.out; have := zc9.out; have := zs10.out; have := zc10.out; omega)
    replace hcw0_1 := cell_kept hcw0_1 hk (fun h3_ => by have h4_ : W4.heap.size ≤ w3.heap.size ∧ w3.heap.size < w4.heap.size := h3_; clear h3_; have := zlaS.out; have := zs1.out; have := zc1.out; have := zs2.out; have := zc2.out; have := zs3.out; have := zc3.out; have := zlw0.out; have := zs4.out; have := zc4.out; have := zlx0.out; have := zs5.out; have := zc5.out; have := zlg0.out; have := zs6.out; have := zc6.out; have := zs7.out; have := zc8.out; have := zc9.out; have := zs10.out; have := zc10.out; omega)
    replace hcx0_0 := cell_kept hcx0_0 hk (fun h3_ => by have h4_ : W4.heap.size ≤ w4.heap.size ∧ w4.heap.size < w4.heap.size := h3_; clear h3_; have := zlaS.out; have := zs1.out; have := zc1.out; have := zs2.out; have := zc2.out; have := zs3.out; have := zc3.out; have := zlw0.out; have := zs4.out; have := zc4.out; have := zlx0.out; have := zs5.out; have := zc5.out; have := zlg0.out; have := zs6.out; have := zc6.out; have := zs7.out; have := zc8.out; have := zc9.out; have := zs10.out; have := zc10.out; omega)
    replace hcx0_1 := cell_kept hcx0_1 hk (fun h3_ => by have h4_ : W4.heap.size ≤ w4.heap.size ∧ w4.heap.size < w4.heap.size := h3_; clear h3_; have := zlaS.out; have := zs1.out; have := zc1.out; have := zs2.out; have := zc2.out; have := zs3.out; have := zc3.out; have := zlw0.out; have := zs4.out; have := zc4.out; have := zlx0.out; have := zs5.out; have := zc5.out; have := zlg0.out; have := zs6.out; have := zc6.out; have := zs7.out; have := zc8.out; have := zc9.out; have := zs10.out; have := zc10.out; omega)
    replace hcg0_0 := cell_kept hcg0_0 hk (fun h3_ => by have h4_ : W4.heap.size ≤ w5.heap.size ∧ w5.heap.size < w4.heap.size := h3_; clear h3_; have := zlaS.out; have := zs1.out; have := zc1.out; have := zs2.out; have := zc2.out; have := zs3.out; have := zc3.out; have := zlw0.out; have := zs4.out; have := zc4.out; have := zlx0.out; have := zs5.out; have := zc5.out; have := zlg0.out; have := zs6.out; have := zc6.out; have := zs7.out; have := zc8.out; have := zc9.out; have := zs10.out; have := zc10.out; omega)
    replace hcg0_1 := cell_kept hcg0_1 hk (fun h3_ => by have h4_ : W4.heap.size ≤ w5.heap.size ∧ w5.heap.size < w4.heap.size := h3_; clear h3_; have := zlaS.out; have := zs1.out; have := zc1.out; have := zs2.out; have := zc2.out; have := zs3.out; have := zc3.out; have := zlw0.out; have := zs4.out; have := zc4.out; have := zlx0.out; have := zs5.out; have := zc5.out; have := zlg0.out; have := zs6.out; have := zc6.out; have := zs7.out; have := zc8.out; have := zc9.out; have := zs10.out; have := zc10.out; omega)
    replace HO2_0 := HO2_0.kept hk (fun k_ h1_ h2_ h3_ => by have := zlaS.out; have := zs1.out; have := zc1.out; have := zs2.out; have := zc2.out; have := zs3.out; have := zc3.out; have := zlw0.out; have := zs4.out; have := zc4.out; have := zlx0.out; have := zs5.out; have := zc5.out; have := zlg0.out; have := zs6.out; have := zc6.out; have := zs7.out; have := zc8.out; have := zc9.out; have := zs10.out; have := zc10.out; obtain ⟨h4_, h5_⟩ := h3_; omega)
    replace HO2_1 := HO2_1.kept hk (fun k_ h1_ h2_ h3_ => by have := zlaS.out; have := zs1.out; have := zc1.out; have := zs2.out; have := zc2.out; have := zs3.out; have := zc3.out; have := zlw0.out; have := zs4.out; have := zc4.out; have := zlx0.out; have := zs5.out; have := zc5.out; have := zlg0.out; have := zs6.out; have := zc6.out; have := zs7.out; have := zc8.out; have := zc9.out; have := zs10.out; have := zc10.out; obtain ⟨h4_, h5_⟩ := h3_; omega)
    replace HO3_0 := HO3_0.kept hk (fun k_ h1_ h2_ h3_ => by have := zlaS.out; have := zs1.out; have := zc1.out; have := zs2.out; have := zc2.out; have := zs3.out; have := zc3.out; have := zlw0.out; have := zs4.out; have := zc4.out; have := zlx0.out; have := zs5.out; have := zc5.out; have := zlg0.out; have := zs6.out; have := zc6.out; have := zs7.out; have := zc8.out; have := zc9.out; have := zs10.out; have := zc10.out; obtain ⟨h4_, h5_⟩ := h3_; omega)
    replace HO3_1 := HO3_1.kept hk (fun k_ h1_ h2_ h3_ => by have := zlaS.out; have := zs1.out; have := zc1.out; have := zs2.out; have := zc2.out; have := zs3.out; have := zc3.out; have := zlw0.out; have := zs4.out; have := zc4.out; have := zlx0.out; have := zs5.out; have := zc5.out; have := zlg0.out; have := zs6.out; have := zc6.out; have := zs7.out; have := zc8.out; have := zc9.out; have := zs10.out; have := zc10.out; obtain ⟨h4_, h5_⟩ := h3_; omega)
    replace HO5_0 := HO5_0.kept hk (fun k_ h1_ h2_ h3_ => by have := zlaS.out; have := zs1.out; have := zc1.out; have := zs2.out; have := zc2.out; have := zs3.out; have := zc3.out; have := zlw0.out; have := zs4.out; have := zc4.out; have := zlx0.out; have := zs5.out; have := zc5.out; have := zlg0.out; have := zs6.out; have := zc6.out; have := zs7.out; have := zc8.out; have := zc9.out; have := zs10.out; have := zc10.out; obtain ⟨h4_, h5_⟩ := h3_; omega)
    replace HO5_1 := HO5_1.kept hk (fun k_ h1_ h2_ h3_ => by have := zlaS.out; have := zs1.out; have := zc1.out; have := zs2.out; have := zc2.out; have := zs3.out; have := zc3.out; have := zlw0.out; have := zs4.out; have := zc4.out; have := zlx0.out; have := zs5.out; have := zc5.out; have := zlg0.out; have := zs6.out; have := zc6.out; have := zs7.out; have := zc8.out; have := zc9.out; have := zs10.out; have := zc10.out; obtain ⟨h4_, h5_⟩ := h3_; omega)
    replace HO8_0 := HO8_0.kept hk (fun k_ h1_ h2_ h3_ => by have := zlaS.out; have := zs1.out; have := zc1.out; have := zs2.out; have := zc2.out; have := zs3.out; have := zc3.out; have := zlw0.out; have := zs4.out; have := zc4.out; have := zlx0.out; have := zs5.out; have := zc5.out; have := zlg0.out; have := zs6.out; have := zc6.out; have := zs7.out; have := zc8.out; have := zc9.out; have := zs10.out; have := zc10.out; obtain ⟨h4_, h5_⟩ := h3_; omega)
    replace HO8_1 := HO8_1.kept hk (fun k_ h1_ h2_ h3_ => by have := zlaS.out; have := zs1.out; have := zc1.out; have := zs2.out; have := zc2.out; have := zs3.out; have := zc3.out; have := zlw0.out; have := zs4.out; have := zc4.out; have := zlx0.out; have := zs5.out; have := zc5.out; have := zlg0.out; have := zs6.out; have := zc6.out; have := zs7.out; have := zc8.out; have := zc9.out; have := zs10.out; have := zc10.out; obtain ⟨h4_, h5_⟩ := h3_; omega)
    replace hlaS : w.heap.size < w10.heap.size := Nat.lt_of_lt_of_le hlaS hk.1
    replace hlw0 : w3.heap.size < w10.heap.size := Nat.lt_of_lt_of_le hlw0 hk.1
    replace hlx0 : w4.heap.size < w10.heap.size := Nat.lt_of_lt_of_le hlx0 hk.1
    replace hlg0 : w5.heap.size < w10.heap.size := Nat.lt_of_lt_of_le hlg0 hk.1
    replace HB := Aside0.mk hB
    clear hB hk
    go_wp2_with fail
    refine calls_named fun W11 hW => ?_
    have hs : Below w10.heap.size w10 W11 := by rw [hW]; repeat (first | exact Below.refl _ _ | apply below_alloc | apply below_drew1 | apply pw_below_drewN)
    clear hW
    replace hcaS_0 := pw_cell_below hs hcaS_0
    replace hcaS_1 := pw_cell_below hs hcaS_1
    replace hcw0_0 := pw_cell_below hs hcw0_0
    replace hcw0_1 := pw_cell_below hs hcw0_1
    replace hcx0_0 := pw_cell_below hs hcx0_0
    replace hcx0_1 := pw_cell_below hs hcx0_1
    replace hcg0_0 := pw_cell_below hs hcg0_0
    replace hcg0_1 := pw_cell_below hs hcg0_1
    replace HO2_0 := HO2_0.below hs
    replace HO2_1 := HO2_1.below hs
    replace HO3_0 := HO3_0.below hs
    replace HO3_1 := HO3_1.below hs
    replace HO4_0 := HO4_0.below hs
    replace HO4_1 := HO4_1.below hs
    replace HO5_0 := HO5_0.below hs
    replace HO5_1 := HO5_1.below hs
    replace HO8_0 := HO8_0.below hs
    replace HO8_1 := HO8_1.below hs
    replace hlaS : w.heap.size < W11.heap.size := Nat.lt_of_lt_of_le hlaS hs.size
    replace hlw0 : w3.heap.size < W11.heap.size := Nat.lt_of_lt_of_le hlw0 hs.size
    replace hlx0 : w4.heap.size < W11.heap.size := Nat.lt_of_lt_of_le hlx0 hs.size
    replace hlg0 : w5.heap.size < W11.heap.size := Nat.lt_of_lt_of_le hlg0 hs.size
    replace HB := Aside0.mk (below_on HB.out HB.out.size hs)
    have zs11 := Aside0.mk hs.size
    clear hs
    obtain ⟨kk11, e_11⟩ := E6.out
    replace e_11 := Aside0.mk e_11
    refine (laws_eqStripe.calls kk11 _ _ r_0 _ _ r_1 _ _ r_0 _ _ r_1 true W11 HO5_0.C HO5_0.cap HO5_1.C HO5_1.cap HO3_0.C HO3_0.cap HO3_1.C HO3_1.cap e_11.out).mono ?_
    rintro e w11 ⟨rfl, hb⟩
    clear e_11
    have zc11 := Aside0.mk hb.size
    replace hcaS_0 := pw_cell_below hb hcaS_0
    replace hcaS_1 := pw_cell_below hb hcaS_1
    replace hcw0_0 := pw_cell_below hb hcw0_0
    replace hcw0_1 := pw_cell_below hb hcw0_1
    replace hcx0_0 := pw_cell_below hb hcx0_0
    replace hcx0_1 := pw_cell_below hb hcx0_1
    replace hcg0_0 := pw_cell_below hb hcg0_0
    replace hcg0_1 := pw_cell_below hb hcg0_1
    replace HO2_0 := HO2_0.below hb
    replace HO2_1 := HO2_1.below hb
    replace HO3_0 := HO3_0.below hb
    replace HO3_1 := HO3_1.below hb
    replace HO4_0 := HO4_0.below hb
    replace HO4_1 := HO4_1.below hb
    replace HO5_0 := HO5_0.below hb
    replace HO5_1 := HO5_1.below hb
    replace HO8_0 := HO8_0.below hb
    replace HO8_1 := HO8_1.below hb
    replace hlaS : w.heap.size < w11.heap.size := Nat.lt_of_lt_of_le hlaS hb.size
    replace hlw0 : w3.heap.size < w11.heap.size := Nat.lt_of_lt_of_le hlw0 hb.size
    replace hlx0 : w4.heap.size < w11.heap.size := Nat.lt_of_lt_of_le hlx0 hb.size
    replace hlg0 : w5.heap.size < w11.heap.size := Nat.lt_of_lt_of_le hlg0 hb.size
    replace HB := Aside0.mk (below_on HB.out HB.out.size hb)
    clear hb
    go_wp2_with fail
    refine calls_named fun W12 hW => ?_
    have hs : Below w11.heap.size w11 W12 := by rw [hW]; repeat (first | exact Below.refl _ _ | apply below_alloc | apply below_drew1 | apply pw_below_drewN)
    clear hW
    replace hcaS_0 := pw_cell_below hs hcaS_0
    replace hcaS_1 := pw_cell_below hs hcaS_1
    replace hcw0_0 := pw_cell_below hs hcw0_0
    replace hcw0_1 := pw_cell_below hs hcw0_1
    replace hcx0_0 := pw_cell_below hs hcx0_0
    replace hcx0_1 := pw_cell_below hs hcx0_1
    replace hcg0_0 := pw_cell_below hs hcg0_0
    replace hcg0_1 := pw_cell_below hs hcg0_1
    replace HO2_0 := HO2_0.below hs
    replace HO2_1 := HO2_1.below hs
    replace HO3_0 := HO3_0.below hs
    replace HO3_1 := HO3_1.below hs
    replace HO4_0 := HO4_0.below hs
    replace HO4_1 := HO4_1.below hs
    replace HO5_0 := HO5_0.below hs
    replace HO5_1 := HO5_1.below hs
    replace HO8_0 := HO8_0.below hs
    replace HO8_1 := HO8_1.below hs
    replace hlaS : w.heap.size < W12.heap.size := Nat.lt_of_lt_of_le hlaS hs.size
    replace hlw0 : w3.heap.size < W12.heap.size := Nat.lt_of_lt_of_le hlw0 hs.size
    replace hlx0 : w4.heap.size < W12.heap.size := Nat.lt_of_lt_of_le hlx0 hs.size
    replace hlg0 : w5.heap.size < W12.heap.size := Nat.lt_of_lt_of_le hlg0 hs.size
    replace HB := Aside0.mk (below_on HB.out HB.out.size hs)
    have zs12 := Aside0.mk hs.size
    clear hs
    obtain ⟨kk12, e_12⟩ := HMT2.out r_0 r_1 1 (by have := HT0.out; have := HT1.out; have := HT2.out; have := HT3.out; omega) (by have := HT0.out; have := HT1.out; have := HT2.out; have := HT3.out; omega)
    replace e_12 := Aside0.mk e_12
    refine (laws_markStripe.calls kk12 (fun k => some k = (.slice A5_0 r_0.length c5_0 : Value).ownBlock) _ r_0 (fun k => some k = (.slice A5_1 r_1.length c5_1 : Value).ownBlock) _ r_1 1 _ _ _ w W12 HB.out (HO5_0.tight rfl) (fun k_ h1_ h2_ => HD5_0.out k_ h1_ h2_) (HO5_1.tight rfl) (fun k_ h1_ h2_ => HD5_0.out k_ h2_ h1_) e_12.out).mono ?_
    rintro e w12 ⟨rfl, hS, hS2, hB, hk⟩
    clear e_12
    replace hk := kept_mono (P' := fun k => W5.heap.size ≤ k ∧ k < w5.heap.size) hk (fun k_ h1_ => h1_.elim (fun h2_ => HO5_0.inside h2_) (fun h2_ => HO5_1.inside h2_))
    replace HO5_0 := OwnR.marked2 rfl HO5_0 hS
    replace HO5_1 := OwnR.marked2 rfl HO5_1 hS2
    clear hS hS2
    have zc12 := Aside0.mk hk.1
    replace hcaS_0 := cell_kept hcaS_0 hk (fun h3_ => by have h4_ : W5.heap.size ≤ w.heap.size ∧ w.heap.size < w5.heap.size := h3_; clear h3_; have := zlaS.out; have := zs1.out; have := zc1.out; have := zs2.out; have := zc2.out; have := zs3.out; have := zc3.out; have := zlw0.out; have := zs4.out; have := zc4.out; have := zlx0.out; have := zs5.out; have := zc5.out; have := zlg0.out; have := zs6.out; have := zc6.out; have := zs7.out; have := zc8.out; have := zc9.out; have := zs10.out; have := zc10.out; have := zs11.out; have := zc11.out; have := zs12.out; have := zc12.out; omega)
    replace hcaS_1 := cell_kept hcaS_1 hk (fun h3_ => by have h4_ : W5.heap.size ≤ w.heap.size ∧ w.heap.size < w5.heap.size := h3_; clear h3_; have := zlaS.out; have := zs1.out; have := zc1.out; have := zs2.out; have := zc2.out; have := zs3.out; have := zc3.out; have := zlw0.out; have := zs4.out; have := zc4.out; have := zlx0.out; have := zs5.out; have := zc5.out; have := zlg0.out; have := zs6.out; have := zc6.out; have := zs7.out; have := zc8.out; have := zc9.out; have := zs10.out; have := zc10.out; have := zs11.out; have := zc11.out; have := zs12.out; have := zc12.out; omega)
    replace hcw0_0 := cell_kept hcw0_0 hk (fun h3_ => by have h4_ : W5.heap.size ≤ w3.heap.size ∧ w3.heap.size < w5.heap.size := h3_; clear h3_; have := zlaS.out; have := zs1.out; have := zc1.out; have := zs2.out; have := zc2.out; have := zs3.out; have := zc3.out; have := zlw0.out; have := zs4.out; have := zc4.out; have := zlx0.out; have := zs5.out; have := zc5.out; have := zlg0.out; have := zs6.out; have := zc6.out; have := zs7.out; have := zc8.out; have := zc9.out; have := zs10.out; have := zc10.out; have := zs11.out; have := zc11.out; have := zs12.out; have := zc12.out; omega)
    replace hcw0_1 := cell_kept hcw0_1 hk (fun h3_ => by have h4_ : W5.heap.size ≤ w3.heap.size ∧ w3.heap.size < w5.heap.size := h3_; clear h3_; have := zlaS.out; have := zs1.out; have := zc1.out; have := zs2.out; have := zc2.out; have := zs3.out; have := zc3.out; have := zlw0.out; have := zs4.out; have := zc4.out; have := zlx0.out; have := zs5.out; have := zc5.out; have := zlg0.out; have := zs6.out; have := zc6.out; have := zs7.out; have := zc8.out; have := zc9.out; have := zs10.out; have := zc10.out; have := zs11.out; have := zc11.out; have := zs12.out; have := zc12.out; omega)
    replace hcx0_0 := cell_kept hcx0_0 hk (fun h3_ => by have h4_ : W5.heap.size ≤ w4.heap.size ∧ w4.heap.size < w5.heap.size := h3_; clear h3_; have := zlaS.out; have := zs1.out; have := zc1.out; have := zs2.out; have := zc2.out; have := zs3.out; have := zc3.out; have := zlw0.out; have := zs4.out; have := zc4.out; have := zlx0.out; have := zs5.out; have := zc5.out; have := zlg0.out; have := zs6.out; have := zc6.out; have := zs7.out; have := zc8.out; have := zc9.out; have := zs10.out; have := zc10.out; have := zs11.out; have := zc11.out; have := zs12.out; have := zc12.out; omega)
    replace hcx0_1 := cell_kept hcx0_1 hk (fun h3_ => by have h4_ : W5.heap.size ≤ w4.heap.size ∧ w4.heap.size < w5.heap.size := h3_; clear h3_; have := zlaS.out; have := zs1.out; have := zc1.out; have := zs2.out; have := zc2.out; have := zs3.out; have := zc3.out; have := zlw0.out; have := zs4.out; have := zc4.out; have := zlx0.out; have := zs5.out; have := zc5.out; have := zlg0.out; have := zs6.out; have := zc6.out; have := zs7.out; have := zc8.out; have := zc9.out; have := zs10.out; have := zc10.out; have := zs11.out; have := zc11.out; have := zs12.out; have := zc12.out; omega)
    replace hcg0_0 := cell_kept hcg0_0 hk (fun h3_ => by have h4_ : W5.heap.size ≤ w5.heap.size ∧ w5.heap.size < w5.heap.size := h3_; clear h3_; have := zlaS.out; have := zs1.out; have := zc1.out; have := zs2.out; have := zc2.out; have := zs3.out; have := zc3.out; have := zlw0.out; have := zs4.out; have := zc4.out; have := zlx0.out; have := zs5.out; have := zc5.out; have := zlg0.out; have := zs6.out; have := zc6.out; have := zs7.out; have := zc8.out; have := zc9.out; have := zs10.out; have := zc10.out; have := zs11.out; have := zc11.out; have := zs12.out; have := zc12.out; omega)
    replace hcg0_1 := cell_kept hcg0_1 hk (fun h3_ => by have h4_ : W5.heap.size ≤ w5.heap.size ∧ w5.heap.size < w5.heap.size := h3_; clear h3_; have := zlaS.out; have := zs1.out; have := zc1.out; have := zs2.out; have := zc2.out; have := zs3.out; have := zc3.out; have := zlw0.out; have := zs4.out; have := zc4.out; have := zlx0.out; have := zs5.out; have := zc5.out; have := zlg0.out; have := zs6.out; have := zc6.out; have := zs7.out; have := zc8.out; have := zc9.out; have := zs10.out; have := zc10.out; have := zs11.out; have := zc11.out; have := zs12.out; have := zc12.out; omega)
    replace HO2_0 := HO2_0.kept hk (fun k_ h1_ h2_ h3_ => by have := zlaS.out; have := zs1.out; have := zc1.out; have := zs2.out; have := zc2.out; have := zs3.out; have := zc3.out; have := zlw0.out; have := zs4.out; have := zc4.out; have := zlx0.out; have := zs5.out; have := zc5.out; have := zlg0.out; have := zs6.out; have := zc6.out; have := zs7.out; have := zc8.out; have := zc9.out; have := zs10.out; have := zc10.out; have := zs11.out; have := zc11.out; have := zs12.out; have := zc12.out; obtain ⟨h4_, h5_⟩ := h3_; omega)
    replace HO2_1 := HO2_1.kept hk (fun k_ h1_ h2_ h3_ => by have := zlaS.out; have := zs1.out; have := zc1.out; have := zs2.out; have := zc2.out; have := zs3.out; have := zc3.out; have := zlw0.out; have := zs4.out; have := zc4.out; have := zlx0.out; have := zs5.out; have := zc5.out; have := zlg0.out; have := zs6.out; have := zc6.out; have := zs7.out; have := zc8.out; have := zc9.out; have := zs10.out; have := zc10.out; have := zs11.out; have := zc11.out; have := zs12.out; have := zc12.out; obtain ⟨h4_, h5_⟩ := h3_; omega)
    replace HO3_0 := HO3_0.kept hk (fun k_ h1_ h2_ h3_ => by have := zlaS.out; have := zs1.out; have := zc1.out; have := zs2.out; have := zc2.out; have := zs3.out; have := zc3.out; have := zlw0.out; have := zs4.out; have := zc4.out; have := zlx0.out; have := zs5.out; have := zc5.out; have := zlg0.out; have := zs6.out; have := zc6.out; have := zs7.out; have := zc8.out; have := zc9.out; have := zs10.out; have := zc10.out; have := zs11.out; have := zc11.out; have := zs12.out; have := zc12.out; obtain ⟨h4_, h5_⟩ := h3_; omega)
    replace HO3_1 := HO3_1.kept hk (fun k_ h1_ h2_ h3_ => by have := zlaS.out; have := zs1.out; have := zc1.out; have := zs2.out; have := zc2.out; have := zs3.out; have := zc3.out; have := zlw0.out; have := zs4.out; have := zc4.out; have := zlx0.out; have := zs5.out; have := zc5.out; have := zlg0.out; have := zs6.out; have := zc6.out; have := zs7.out; have := zc8.out; have := zc9.out; have := zs10.out; have := zc10.out; have := zs11.out; have := zc11.out; have := zs12.out; have := zc12.out; obtain ⟨h4_, h5_⟩ := h3_; omega)
    replace HO4_0 := HO4_0.kept hk (fun k_ h1_ h2_ h3_ => by have := zlaS.out; have := zs1.out; have := zc1.out; have := zs2.out; have := zc2.out; have := zs3.out; have := zc3.out; have := zlw0.out; have := zs4.out; have := zc4.out; have := zlx0.out; have := zs5.out; have := zc5.out; have := zlg0.out; have := zs6.out; have := zc6.out; have := zs7.out; have := zc8.out; have := zc9.out; have := zs10.out; have := zc10.out; have := zs11.out; have := zc11.out; have := zs12.out; have := zc12.out; obtain ⟨h4_, h5_⟩ := h3_; omega)
    replace HO4_1 := HO4_1.kept hk (fun k_ h1_ h2_ h3_ => by have := zlaS.out; have := zs1.out; have := zc1.out; have := zs2.out; have := zc2.out; have := zs3.out; have := zc3.out; have := zlw0.out; have := zs4.out; have := zc4.out; have := zlx0.out; have := zs5.out; have := zc5.out; have := zlg0.out; have := zs6.out; have := zc6.out; have := zs7.out; have := zc8.out; have := zc9.out; have := zs10.out; have := zc10.out; have := zs11.out; have := zc11.out; have := zs12.out; have := zc12.out; obtain ⟨h4_, h5_⟩ := h3_; omega)
    replace HO8_0 := HO8_0.kept hk (fun k_ h1_ h2_ h3_ => by have := zlaS.out; have := zs1.out; have := zc1.out; have := zs2.out; have := zc2.out; have := zs3.out; have := zc3.out; have := zlw0.out; have := zs4.out; have := zc4.out; have := zlx0.out; have := zs5.out; have := zc5.out; have := zlg0.out; have := zs6.out; have := zc6.out; have := zs7.out; have := zc8.out; have := zc9.out; have := zs10.out; have := zc10.out; have := zs11.out; have := zc11.out; have := zs12.out; have := zc12.out; obtain ⟨h4_, h5_⟩ := h3_; omega)
    replace HO8_1 := HO8_1.kept hk (fun k_ h1_ h2_ h3_ => by have := zlaS.out; have := zs1.out; have := zc1.out; have := zs2.out; have := zc2.out; have := zs3.out; have := zc3.out; have := zlw0.out; have := zs4.out; have := zc4.out; have := zlx0.out; have := zs5.out; have := zc5.out; have := zlg0.out; have := zs6.out; have := zc6.out; have := zs7.out; have := zc8.out; have := zc9.out; have := zs10.out; have := zc10.out; have := zs11.out; have := zc11.out; have := zs12.out; have := zc12.out; obtain ⟨h4_, h5_⟩ := h3_; omega)
    replace hlaS : w.heap.size < w12.heap.size := Nat.lt_of_lt_of_le hlaS hk.1
    replace hlw0 : w3.heap.size < w12.heap.size := Nat.lt_of_lt_of_le hlw0 hk.1
    replace hlx0 : w4.heap.size < w12.heap.size := Nat.lt_of_lt_of_le hlx0 hk.1
    replace hlg0 : w5.heap.size < w12.heap.size := Nat.lt_of_lt_of_le hlg0 hk.1
    replace HB := Aside0.mk hB
    clear hB hk
    go_wp2_with fail
    refine calls_named fun W13 hW => ?_
    have hs : Below w12.heap.size w12 W13 := by rw [hW]; repeat (first | exact Below.refl _ _ | apply below_alloc | apply below_drew1 | apply pw_below_drewN)
    clear hW
    replace hcaS_0 := pw_cell_below hs hcaS_0
    replace hcaS_1 := pw_cell_below hs hcaS_1
    replace hcw0_0 := pw_cell_below hs hcw0_0
    replace hcw0_1 := pw_cell_below hs hcw0_1
    replace hcx0_0 := pw_cell_below hs hcx0_0
    replace hcx0_1 := pw_cell_below hs hcx0_1
    replace hcg0_0 := pw_cell_below hs hcg0_0
    replace hcg0_1 := pw_cell_below hs hcg0_1
    replace HO2_0 := HO2_0.below hs
    replace HO2_1 := HO2_1.below hs
    replace HO3_0 := HO3_0.below hs
    replace HO3_1 := HO3_1.below hs
    replace HO4_0 := HO4_0.below hs
    replace HO4_1 := HO4_1.below hs
    replace HO5_0 := HO5_0.below hs
    replace HO5_1 := HO5_1.below hs
    replace HO8_0 := HO8_0.below hs
    replace HO8_1 := HO8_1.below hs
    replace hlaS : w.heap.size < W13.heap.size := Nat.lt_of_lt_of_le hlaS hs.size
    replace hlw0 : w3.heap.size < W13.heap.size := Nat.lt_of_lt_of_le hlw0 hs.size
    replace hlx0 : w4.heap.size < W13.heap.size := Nat.lt_of_lt_of_le hlx0 hs.size
    replace hlg0 : w5.heap.size < W13.heap.size := Nat.lt_of_lt_of_le hlg0 hs.size
    replace HB := Aside0.mk (below_on HB.out HB.out.size hs)
    have zs13 := Aside0.mk hs.size
    clear hs
    obtain ⟨kk13, e_13⟩ := E8.out
    replace e_13 := Aside0.mk e_13
    refine calls_of_args (args' := #[.agg #[.slice A5_0 (markTS 1 r_0.length).length c5_0, .slice A5_1 (markTS (1 + ((r_0.length : Nat) : Int)) r_1.length).length c5_1], .int .i64 1]) (by simp [markSS_length, markB_length, markI_length, markTS_length]) ?_
    refine (laws_heldStripe.calls kk13 _ _ (markTS 1 r_0.length) _ _ (markTS (1 + ((r_0.length : Nat) : Int)) r_1.length) 1 (1 + ((r_0.length : Nat) : Int) + ((r_1.length : Nat) : Int)) W13 HO5_0.C HO5_0.cap HO5_1.C HO5_1.cap e_13.out).mono ?_
    rintro e w13 ⟨rfl, hb⟩
    clear e_13
    have zc13 := Aside0.mk hb.size
    replace hcaS_0 := pw_cell_below hb hcaS_0
    replace hcaS_1 := pw_cell_below hb hcaS_1
    replace hcw0_0 := pw_cell_below hb hcw0_0
    replace hcw0_1 := pw_cell_below hb hcw0_1
    replace hcx0_0 := pw_cell_below hb hcx0_0
    replace hcx0_1 := pw_cell_below hb hcx0_1
    replace hcg0_0 := pw_cell_below hb hcg0_0
    replace hcg0_1 := pw_cell_below hb hcg0_1
    replace HO2_0 := HO2_0.below hb
    replace HO2_1 := HO2_1.below hb
    replace HO3_0 := HO3_0.below hb
    replace HO3_1 := HO3_1.below hb
    replace HO4_0 := HO4_0.below hb
    replace HO4_1 := HO4_1.below hb
    replace HO5_0 := HO5_0.below hb
    replace HO5_1 := HO5_1.below hb
    replace HO8_0 := HO8_0.below hb
    replace HO8_1 := HO8_1.below hb
    replace hlaS : w.heap.size < w13.heap.size := Nat.lt_of_lt_of_le hlaS hb.size
    replace hlw0 : w3.heap.size < w13.heap.size := Nat.lt_of_lt_of_le hlw0 hb.size
    replace hlx0 : w4.heap.size < w13.heap.size := Nat.lt_of_lt_of_le hlx0 hb.size
    replace hlg0 : w5.heap.size < w13.heap.size := Nat.lt_of_lt_of_le hlg0 hb.size
    replace HB := Aside0.mk (below_on HB.out HB.out.size hb)
    clear hb
    go_wp2_with fail
    refine calls_named fun W14 hW => ?_
    have hs : Below w13.heap.size w13 W14 := by rw [hW]; repeat (first | exact Below.refl _ _ | apply below_alloc | apply below_drew1 | apply pw_below_drewN)
    clear hW
    replace hcaS_0 := pw_cell_below hs hcaS_0
    replace hcaS_1 := pw_cell_below hs hcaS_1
    replace hcw0_0 := pw_cell_below hs hcw0_0
    replace hcw0_1 := pw_cell_below hs hcw0_1
    replace hcx0_0 := pw_cell_below hs hcx0_0
    replace hcx0_1 := pw_cell_below hs hcx0_1
    replace hcg0_0 := pw_cell_below hs hcg0_0
    replace hcg0_1 := pw_cell_below hs hcg0_1
    replace HO2_0 := HO2_0.below hs
    replace HO2_1 := HO2_1.below hs
    replace HO3_0 := HO3_0.below hs
    replace HO3_1 := HO3_1.below hs
    replace HO4_0 := HO4_0.below hs
    replace HO4_1 := HO4_1.below hs
    replace HO5_0 := HO5_0.below hs
    replace HO5_1 := HO5_1.below hs
    replace HO8_0 := HO8_0.below hs
    replace HO8_1 := HO8_1.below hs
    replace hlaS : w.heap.size < W14.heap.size := Nat.lt_of_lt_of_le hlaS hs.size
    replace hlw0 : w3.heap.size < W14.heap.size := Nat.lt_of_lt_of_le hlw0 hs.size
    replace hlx0 : w4.heap.size < W14.heap.size := Nat.lt_of_lt_of_le hlx0 hs.size
    replace hlg0 : w5.heap.size < W14.heap.size := Nat.lt_of_lt_of_le hlg0 hs.size
    replace HB := Aside0.mk (below_on HB.out HB.out.size hs)
    have zs14 := Aside0.mk hs.size
    clear hs
    obtain ⟨kk14, e_14⟩ := E2.out
    replace e_14 := Aside0.mk e_14
    refine (laws_toStripe.calls kk14 _ _ l0_0 _ _ l0_1 t_aS_0 t_aS_1 W14 (Kd.C_below HR0_0.out HB.out) HC0_0.out (Kd.C_below HR0_1.out HB.out) HC0_1.out e_14.out).mono ?_
    rintro e w14 ⟨v14_0, v14_1, rfl, h14_0, h14_1, hb⟩
    clear e_14
    have HO14_0 := OwnR.new (b := w.heap.size) h14_0 HB.out.size
    have HO14_1 := OwnR.new (b := w.heap.size) h14_1 HB.out.size
    have HD14_0 : Aside0 (∀ k_, some k_ = (v14_0 : Value).ownBlock → ¬ some k_ = (v14_1 : Value).ownBlock) := ⟨fun k_ h_ => by have q_ := h14_0.1 k_ h_.symm; first | exact q_ | exact q_.1⟩
    clear h14_0
    clear h14_1
    have zc14 := Aside0.mk hb.size
    replace hcaS_0 := pw_cell_below hb hcaS_0
    replace hcaS_1 := pw_cell_below hb hcaS_1
    replace hcw0_0 := pw_cell_below hb hcw0_0
    replace hcw0_1 := pw_cell_below hb hcw0_1
    replace hcx0_0 := pw_cell_below hb hcx0_0
    replace hcx0_1 := pw_cell_below hb hcx0_1
    replace hcg0_0 := pw_cell_below hb hcg0_0
    replace hcg0_1 := pw_cell_below hb hcg0_1
    replace HO2_0 := HO2_0.below hb
    replace HO2_1 := HO2_1.below hb
    replace HO3_0 := HO3_0.below hb
    replace HO3_1 := HO3_1.below hb
    replace HO4_0 := HO4_0.below hb
    replace HO4_1 := HO4_1.below hb
    replace HO5_0 := HO5_0.below hb
    replace HO5_1 := HO5_1.below hb
    replace HO8_0 := HO8_0.below hb
    replace HO8_1 := HO8_1.below hb
    replace hlaS : w.heap.size < w14.heap.size := Nat.lt_of_lt_of_le hlaS hb.size
    replace hlw0 : w3.heap.size < w14.heap.size := Nat.lt_of_lt_of_le hlw0 hb.size
    replace hlx0 : w4.heap.size < w14.heap.size := Nat.lt_of_lt_of_le hlx0 hb.size
    replace hlg0 : w5.heap.size < w14.heap.size := Nat.lt_of_lt_of_le hlg0 hb.size
    replace HB := Aside0.mk (below_on HB.out HB.out.size hb)
    clear hb
    obtain ⟨A14_0, c14_0, rfl⟩ := HO14_0.slice
    obtain ⟨A14_1, c14_1, rfl⟩ := HO14_1.slice
    go_wp2_with fail
    refine calls_named fun W15 hW => ?_
    have hs : Below w14.heap.size w14 W15 := by rw [hW]; repeat (first | exact Below.refl _ _ | apply below_alloc | apply below_drew1 | apply pw_below_drewN)
    clear hW
    replace hcaS_0 := pw_cell_below hs hcaS_0
    replace hcaS_1 := pw_cell_below hs hcaS_1
    replace hcw0_0 := pw_cell_below hs hcw0_0
    replace hcw0_1 := pw_cell_below hs hcw0_1
    replace hcx0_0 := pw_cell_below hs hcx0_0
    replace hcx0_1 := pw_cell_below hs hcx0_1
    replace hcg0_0 := pw_cell_below hs hcg0_0
    replace hcg0_1 := pw_cell_below hs hcg0_1
    replace HO2_0 := HO2_0.below hs
    replace HO2_1 := HO2_1.below hs
    replace HO3_0 := HO3_0.below hs
    replace HO3_1 := HO3_1.below hs
    replace HO4_0 := HO4_0.below hs
    replace HO4_1 := HO4_1.below hs
    replace HO5_0 := HO5_0.below hs
    replace HO5_1 := HO5_1.below hs
    replace HO8_0 := HO8_0.below hs
    replace HO8_1 := HO8_1.below hs
    replace HO14_0 := HO14_0.below hs
    replace HO14_1 := HO14_1.below hs
    replace hlaS : w.heap.size < W15.heap.size := Nat.lt_of_lt_of_le hlaS hs.size
    replace hlw0 : w3.heap.size < W15.heap.size := Nat.lt_of_lt_of_le hlw0 hs.size
    replace hlx0 : w4.heap.size < W15.heap.size := Nat.lt_of_lt_of_le hlx0 hs.size
    replace hlg0 : w5.heap.size < W15.heap.size := Nat.lt_of_lt_of_le hlg0 hs.size
    replace HB := Aside0.mk (below_on HB.out HB.out.size hs)
    have zs15 := Aside0.mk hs.size
    clear hs
    obtain ⟨kk15, e_15⟩ := E5.out
    replace e_15 := Aside0.mk e_15
    refine (impl_ChangeStripe.calls kk15 _ _ t_aS_0 _ _ t_aS_1 a1 a2 r_0 r_1 r_2 W15 HO14_0.C HO14_0.cap HO14_1.C HO14_1.cap e_15.out).mono ?_
    rintro e w15 ⟨v15_0, v15_1, rfl, h15_0, h15_1, hb⟩
    clear e_15
    have HO15_0 := OwnR.new (b := w.heap.size) h15_0 HB.out.size
    have HO15_1 := OwnR.new (b := w.heap.size) h15_1 HB.out.size
    have HD15_0 : Aside0 (∀ k_, some k_ = (v15_0 : Value).ownBlock → ¬ some k_ = (v15_1 : Value).ownBlock) := ⟨fun k_ h_ => by have q_ := h15_0.1 k_ h_.symm; first | exact q_ | exact q_.1⟩
    clear h15_0
    clear h15_1
    have zc15 := Aside0.mk hb.size
    replace hcaS_0 := pw_cell_below hb hcaS_0
    replace hcaS_1 := pw_cell_below hb hcaS_1
    replace hcw0_0 := pw_cell_below hb hcw0_0
    replace hcw0_1 := pw_cell_below hb hcw0_1
    replace hcx0_0 := pw_cell_below hb hcx0_0
    replace hcx0_1 := pw_cell_below hb hcx0_1
    replace hcg0_0 := pw_cell_below hb hcg0_0
    replace hcg0_1 := pw_cell_below hb hcg0_1
    replace HO2_0 := HO2_0.below hb
    replace HO2_1 := HO2_1.below hb
    replace HO3_0 := HO3_0.below hb
    replace HO3_1 := HO3_1.below hb
    replace HO4_0 := HO4_0.below hb
    replace HO4_1 := HO4_1.below hb
    replace HO5_0 := HO5_0.below hb
    replace HO5_1 := HO5_1.below hb
    replace HO8_0 := HO8_0.below hb
    replace HO8_1 := HO8_1.below hb
    replace HO14_0 := HO14_0.below hb
    replace HO14_1 := HO14_1.below hb
    replace hlaS : w.heap.size < w15.heap.size := Nat.lt_of_lt_of_le hlaS hb.size
    replace hlw0 : w3.heap.size < w15.heap.size := Nat.lt_of_lt_of_le hlw0 hb.size
    replace hlx0 : w4.heap.size < w15.heap.size := Nat.lt_of_lt_of_le hlx0 hb.size
    replace hlg0 : w5.heap.size < w15.heap.size := Nat.lt_of_lt_of_le hlg0 hb.size
    replace HB := Aside0.mk (below_on HB.out HB.out.size hb)
    clear hb
    obtain ⟨A15_0, c15_0, rfl⟩ := HO15_0.slice
    obtain ⟨A15_1, c15_1, rfl⟩ := HO15_1.slice
    go_wp2_with fail
    refine calls_named fun W16 hW => ?_
    have hs : Below w15.heap.size w15 W16 := by rw [hW]; repeat (first | exact Below.refl _ _ | apply below_alloc | apply below_drew1 | apply pw_below_drewN)
    have hch0_0 : W16.cell? ⟨w15.heap.size, 0, none⟩ = some (.slice A15_0 r_0.length c15_0) := by rw [hW]; go_simp
    have hch0_1 : W16.cell? ⟨w15.heap.size, 1, none⟩ = some (.slice A15_1 r_1.length c15_1) := by rw [hW]; go_simp
    have hlh0 : w15.heap.size < W16.heap.size := by rw [hW]; simp <;> omega
    have zlh0 := Aside0.mk hlh0
    clear hW
    replace hcaS_0 := pw_cell_below hs hcaS_0
    replace hcaS_1 := pw_cell_below hs hcaS_1
    replace hcw0_0 := pw_cell_below hs hcw0_0
    replace hcw0_1 := pw_cell_below hs hcw0_1
    replace hcx0_0 := pw_cell_below hs hcx0_0
    replace hcx0_1 := pw_cell_below hs hcx0_1
    replace hcg0_0 := pw_cell_below hs hcg0_0
    replace hcg0_1 := pw_cell_below hs hcg0_1
    replace HO2_0 := HO2_0.below hs
    replace HO2_1 := HO2_1.below hs
    replace HO3_0 := HO3_0.below hs
    replace HO3_1 := HO3_1.below hs
    replace HO4_0 := HO4_0.below hs
    replace HO4_1 := HO4_1.below hs
    replace HO5_0 := HO5_0.below hs
    replace HO5_1 := HO5_1.below hs
    replace HO8_0 := HO8_0.below hs
    replace HO8_1 := HO8_1.below hs
    replace HO14_0 := HO14_0.below hs
    replace HO14_1 := HO14_1.below hs
    replace HO15_0 := HO15_0.below hs
    replace HO15_1 := HO15_1.below hs
    replace hlaS : w.heap.size < W16.heap.size := Nat.lt_of_lt_of_le hlaS hs.size
    replace hlw0 : w3.heap.size < W16.heap.size := Nat.lt_of_lt_of_le hlw0 hs.size
    replace hlx0 : w4.heap.size < W16.heap.size := Nat.lt_of_lt_of_le hlx0 hs.size
    replace hlg0 : w5.heap.size < W16.heap.size := Nat.lt_of_lt_of_le hlg0 hs.size
    replace HB := Aside0.mk (below_on HB.out HB.out.size hs)
    have zs16 := Aside0.mk hs.size
    clear hs
    obtain ⟨kk16, e_16⟩ := E6.out
    replace e_16 := Aside0.mk e_16
    refine (laws_eqStripe.calls kk16 _ _ r_0 _ _ r_1 _ _ r_0 _ _ r_1 true W16 HO15_0.C HO15_0.cap HO15_1.C HO15_1.cap HO3_0.C HO3_0.cap HO3_1.C HO3_1.cap e_16.out).mono ?_
    rintro e w16 ⟨rfl, hb⟩
    clear e_16
    have zc16 := Aside0.mk hb.size
    replace hcaS_0 := pw_cell_below hb hcaS_0
    replace hcaS_1 := pw_cell_below hb hcaS_1
    replace hcw0_0 := pw_cell_below hb hcw0_0
    replace hcw0_1 := pw_cell_below hb hcw0_1
    replace hcx0_0 := pw_cell_below hb hcx0_0
    replace hcx0_1 := pw_cell_below hb hcx0_1
    replace hcg0_0 := pw_cell_below hb hcg0_0
    replace hcg0_1 := pw_cell_below hb hcg0_1
    replace hch0_0 := pw_cell_below hb hch0_0
    replace hch0_1 := pw_cell_below hb hch0_1
    replace HO2_0 := HO2_0.below hb
    replace HO2_1 := HO2_1.below hb
    replace HO3_0 := HO3_0.below hb
    replace HO3_1 := HO3_1.below hb
    replace HO4_0 := HO4_0.below hb
    replace HO4_1 := HO4_1.below hb
    replace HO5_0 := HO5_0.below hb
    replace HO5_1 := HO5_1.below hb
    replace HO8_0 := HO8_0.below hb
    replace HO8_1 := HO8_1.below hb
    replace HO14_0 := HO14_0.below hb
    replace HO14_1 := HO14_1.below hb
    replace HO15_0 := HO15_0.below hb
    replace HO15_1 := HO15_1.below hb
    replace hlaS : w.heap.size < w16.heap.size := Nat.lt_of_lt_of_le hlaS hb.size
    replace hlw0 : w3.heap.size < w16.heap.size := Nat.lt_of_lt_of_le hlw0 hb.size
    replace hlx0 : w4.heap.size < w16.heap.size := Nat.lt_of_lt_of_le hlx0 hb.size
    replace hlg0 : w5.heap.size < w16.heap.size := Nat.lt_of_lt_of_le hlg0 hb.size
    replace hlh0 : w15.heap.size < w16.heap.size := Nat.lt_of_lt_of_le hlh0 hb.size
    replace HB := Aside0.mk (below_on HB.out HB.out.size hb)
    clear hb
    go_wp2_with fail
    refine calls_named fun W17 hW => ?_
    have hs : Below w16.heap.size w16 W17 := by rw [hW]; repeat (first | exact Below.refl _ _ | apply below_alloc | apply below_drew1 | apply pw_below_drewN)
    clear hW
    replace hcaS_0 := pw_cell_below hs hcaS_0
    replace hcaS_1 := pw_cell_below hs hcaS_1
    replace hcw0_0 := pw_cell_below hs hcw0_0
    replace hcw0_1 := pw_cell_below hs hcw0_1
    replace hcx0_0 := pw_cell_below hs hcx0_0
    replace hcx0_1 := pw_cell_below hs hcx0_1
    replace hcg0_0 := pw_cell_below hs hcg0_0
    replace hcg0_1 := pw_cell_below hs hcg0_1
    replace hch0_0 := pw_cell_below hs hch0_0
    replace hch0_1 := pw_cell_below hs hch0_1
    replace HO2_0 := HO2_0.below hs
    replace HO2_1 := HO2_1.below hs
    replace HO3_0 := HO3_0.below hs
    replace HO3_1 := HO3_1.below hs
    replace HO4_0 := HO4_0.below hs
    replace HO4_1 := HO4_1.below hs
    replace HO5_0 := HO5_0.below hs
    replace HO5_1 := HO5_1.below hs
    replace HO8_0 := HO8_0.below hs
    replace HO8_1 := HO8_1.below hs
    replace HO14_0 := HO14_0.below hs
    replace HO14_1 := HO14_1.below hs
    replace HO15_0 := HO15_0.below hs
    replace HO15_1 := HO15_1.below hs
    replace hlaS : w.heap.size < W17.heap.size := Nat.lt_of_lt_of_le hlaS hs.size
    replace hlw0 : w3.heap.size < W17.heap.size := Nat.lt_of_lt_of_le hlw0 hs.size
    replace hlx0 : w4.heap.size < W17.heap.size := Nat.lt_of_lt_of_le hlx0 hs.size
    replace hlg0 : w5.heap.size < W17.heap.size := Nat.lt_of_lt_of_le hlg0 hs.size
    replace hlh0 : w15.heap.size < W17.heap.size := Nat.lt_of_lt_of_le hlh0 hs.size
    replace HB := Aside0.mk (below_on HB.out HB.out.size hs)
    have zs17 := Aside0.mk hs.size
    clear hs
    obtain ⟨kk17, e_17⟩ := E8.out
    replace e_17 := Aside0.mk e_17
    refine calls_of_args (args' := #[.agg #[.slice A5_0 (markTS 1 r_0.length).length c5_0, .slice A5_1 (markTS (1 + ((r_0.length : Nat) : Int)) r_1.length).length c5_1], .int .i64 1]) (by simp [markSS_length, markB_length, markI_length, markTS_length]) ?_
    refine (laws_heldStripe.calls kk17 _ _ (markTS 1 r_0.length) _ _ (markTS (1 + ((r_0.length : Nat) : Int)) r_1.length) 1 (1 + ((r_0.length : Nat) : Int) + ((r_1.length : Nat) : Int)) W17 HO5_0.C HO5_0.cap HO5_1.C HO5_1.cap e_17.out).mono ?_
    rintro e w17 ⟨rfl, hb⟩
    clear e_17
    have zc17 := Aside0.mk hb.size
    replace hcaS_0 := pw_cell_below hb hcaS_0
    replace hcaS_1 := pw_cell_below hb hcaS_1
    replace hcw0_0 := pw_cell_below hb hcw0_0
    replace hcw0_1 := pw_cell_below hb hcw0_1
    replace hcx0_0 := pw_cell_below hb hcx0_0
    replace hcx0_1 := pw_cell_below hb hcx0_1
    replace hcg0_0 := pw_cell_below hb hcg0_0
    replace hcg0_1 := pw_cell_below hb hcg0_1
    replace hch0_0 := pw_cell_below hb hch0_0
    replace hch0_1 := pw_cell_below hb hch0_1
    replace HO2_0 := HO2_0.below hb
    replace HO2_1 := HO2_1.below hb
    replace HO3_0 := HO3_0.below hb
    replace HO3_1 := HO3_1.below hb
    replace HO4_0 := HO4_0.below hb
    replace HO4_1 := HO4_1.below hb
    replace HO5_0 := HO5_0.below hb
    replace HO5_1 := HO5_1.below hb
    replace HO8_0 := HO8_0.below hb
    replace HO8_1 := HO8_1.below hb
    replace HO14_0 := HO14_0.below hb
    replace HO14_1 := HO14_1.below hb
    replace HO15_0 := HO15_0.below hb
    replace HO15_1 := HO15_1.below hb
    replace hlaS : w.heap.size < w17.heap.size := Nat.lt_of_lt_of_le hlaS hb.size
    replace hlw0 : w3.heap.size < w17.heap.size := Nat.lt_of_lt_of_le hlw0 hb.size
    replace hlx0 : w4.heap.size < w17.heap.size := Nat.lt_of_lt_of_le hlx0 hb.size
    replace hlg0 : w5.heap.size < w17.heap.size := Nat.lt_of_lt_of_le hlg0 hb.size
    replace hlh0 : w15.heap.size < w17.heap.size := Nat.lt_of_lt_of_le hlh0 hb.size
    replace HB := Aside0.mk (below_on HB.out HB.out.size hb)
    clear hb
    go_wp2
    go_ret
    exact ⟨rfl, by repeat (first | exact HB.out | apply below_alloc | apply below_drew1 | apply pw_below_drewN)⟩
end Go.Proofs.Ytlmcobjpmonkfaa.PFnExactChangeStripe
