/- The walk through the law FnExactMendStripe, out of the contracts of what it calls. -/
import Derived.Test.YtajikfnpcobnpaaPFnExactMendStripex
import Derived.Test.YtajikfnpcobnpaaVMendStripeC
namespace Go.Proofs.Ytajikfnpcobnpaa.PFnExactMendStripe
open Go.RowKit Go.Proofs.YtajikfnpcobnpaaW.PrintWords Go.Proofs.YtajikfnpcobnpaaW.PrintLast Go.Proofs.YtajikfnpcobnpaaW.PrintMore Go.Proofs.Ytajikfnpcobnpaa.Gf Go.Proofs.Ytajikfnpcobnpaa.Kit Go.Proofs.Ytajikfnpcobnpaa.LawKit
set_option linter.unusedVariables false
set_option linter.unusedSimpArgs false
def laws_FnExactMendStripe.Facts0 (l0_0 : List (ByteArray)) (l0_1 : List (ByteArray)) (l1 : List (Int)) : Prop := (1048576 < (l1.length : Int))
def laws_FnExactMendStripe.Facts1 (l0_0 : List (ByteArray)) (l0_1 : List (ByteArray)) (l1 : List (Int)) : Prop := ∃ s_1 : Int, (¬ 1048576 < (l1.length : Int)) ∧ (∃ k, laws_szStripe.f k l0_0 l0_1 1048576 = some s_1) ∧ (s_1 < 0)
def laws_FnExactMendStripe.Facts2 (l0_0 : List (ByteArray)) (l0_1 : List (ByteArray)) (l1 : List (Int)) : Prop := ∃ s_1 : Int, ∃ t_aS_0 : List (ByteArray), ∃ t_aS_1 : List (ByteArray), ∃ t_aLost_0 : List (Int), ∃ r_0 : List (ByteArray), ∃ r_1 : List (ByteArray), ∃ r_2 : Bool, (¬ 1048576 < (l1.length : Int)) ∧ (∃ k, laws_szStripe.f k l0_0 l0_1 1048576 = some s_1) ∧ (¬ s_1 < 0) ∧ (∃ k, laws_toStripe.f k l0_0 l0_1 = some (t_aS_0, t_aS_1)) ∧ (∃ k, laws_toIntS.f k l1 = some t_aLost_0) ∧ (∃ k, spec_MendStripe.f k t_aS_0 t_aS_1 t_aLost_0 = some (r_0, r_1, r_2)) ∧ (∃ k, impl_MendStripe.f k t_aS_0 t_aS_1 t_aLost_0 = some (r_0, r_1, r_2)) ∧ (∃ k, laws_eqStripe.f k r_0 r_1 r_0 r_1 = some true) ∧ (∃ k, laws_eqStripe.f k t_aS_0 t_aS_1 t_aS_0 t_aS_1 = some true) ∧ (∃ k, laws_eqIntS.f k t_aLost_0 t_aLost_0 = some true) ∧ (∃ k, laws_heldStripe.f k (markTS 1 r_0.length) (markTS (1 + ((r_0.length : Nat) : Int)) r_1.length) 1 = some (1 + ((r_0.length : Nat) : Int) + ((r_1.length : Nat) : Int))) ∧ (∀ (l m : List ByteArray) (a : Int), 0 ≤ a → a + l.length + m.length < 4611686018427387904 → ∃ k, laws_markStripe.f k l m a = some (a + ((l.length : Nat) : Int) + ((m.length : Nat) : Int), markTS a l.length, markTS (a + ((l.length : Nat) : Int)) m.length)) ∧ (∀ (l : List Int) (a : Int), 0 ≤ a → a + l.length < 4611686018427387904 → ∃ k, laws_markIntS.f k l a = some (a + ((l.length : Nat) : Int), markI a l.length)) ∧ (t_aS_0.length < 1152921504606846976) ∧ (t_aS_1.length < 1152921504606846976) ∧ (t_aLost_0.length < 1152921504606846976) ∧ (r_0.length < 1152921504606846976) ∧ (r_1.length < 1152921504606846976)
def laws_FnExactMendStripe.Facts (l0_0 : List (ByteArray)) (l0_1 : List (ByteArray)) (l1 : List (Int)) : Prop := laws_FnExactMendStripe.Facts0 l0_0 l0_1 l1 ∨ laws_FnExactMendStripe.Facts1 l0_0 l0_1 l1 ∨ laws_FnExactMendStripe.Facts2 l0_0 l0_1 l1
set_option maxHeartbeats 16000000 in
set_option maxRecDepth 100000 in
theorem laws_FnExactMendStripe.calls (A0_0 : Option Addr) (c0_0 : Nat) (l0_0 : List (ByteArray)) (A0_1 : Option Addr) (c0_1 : Nat) (l0_1 : List (ByteArray)) (A1 : Option Addr) (c1 : Nat) (l1 : List (Int)) (w : World) (hr0_0 : Kd.C Kd.string w A0_0 l0_0.length l0_0) (hc0_0 : l0_0.length ≤ c0_0) (hr0_1 : Kd.C Kd.string w A0_1 l0_1.length l0_1) (hc0_1 : l0_1.length ≤ c0_1) (hr1 : Kd.C (Kd.int .i64) w A1 l1.length l1) (hc1 : l1.length ≤ c1) (h : laws_FnExactMendStripe.Facts l0_0 l0_1 l1) :
  Calls Try.prog 3 #[.agg #[.slice A0_0 l0_0.length c0_0, .slice A0_1 l0_1.length c0_1], .slice A1 l1.length c1] w fun e w' => e = .returned (.bool true) ∧ Below w.heap.size w w' := by
 have HR0_0 := Aside0.mk hr0_0
 have HC0_0 := Aside0.mk hc0_0
 clear hr0_0 hc0_0
 have HR0_1 := Aside0.mk hr0_1
 have HC0_1 := Aside0.mk hc0_1
 clear hr0_1 hc0_1
 have HR1 := Aside0.mk hr1
 have HC1 := Aside0.mk hc1
 clear hr1 hc1
 have HB := Aside0.mk (Below.refl w.heap.size w)
 rcases h with h | h | h
 ·have G1 : 1048576 < (l1.length : Int) := h
  replace G1 := Aside0.mk G1
  go_enter Try.func3, Try.ntmps3
  have hg1 := decide_eq_true (show 1048576 < (l1.length : Int) by have := G1.out; omega)
  have hg1b : decide (1048576 < l1.length) = true := decide_eq_true (by have := G1.out; omega)
  go_wp2
  go_ret
  exact ⟨rfl, by repeat (first | exact HB.out | apply below_alloc | apply below_drew1 | apply pw_below_drewN)⟩
 ·obtain ⟨s_1, G1, E0, G2⟩ := h
  replace G1 := Aside0.mk G1
  replace E0 := Aside0.mk E0
  replace G2 := Aside0.mk G2
  go_enter Try.func3, Try.ntmps3
  have hg1 := decide_eq_false (show ¬ (1048576 < (l1.length : Int)) by have := G1.out; omega)
  have hg1b : decide (1048576 < l1.length) = false := decide_eq_false (by have := G1.out; omega)
  go_wp2_with fail
  refine calls_named fun W1 hW => ?_
  have hs : Below w.heap.size w W1 := by rw [hW]; repeat (first | exact Below.refl _ _ | apply below_alloc | apply below_drew1 | apply pw_below_drewN)
  have hcaS_0 : W1.cell? ⟨w.heap.size, 0, none⟩ = some (.slice A0_0 l0_0.length c0_0) := by rw [hW]; go_simp
  have hcaS_1 : W1.cell? ⟨w.heap.size, 1, none⟩ = some (.slice A0_1 l0_1.length c0_1) := by rw [hW]; go_simp
  have hlaS : w.heap.size < W1.heap.size := by rw [hW]; simp <;> omega
  have zlaS := Aside0.mk hlaS
  clear hW
  replace HB := Aside0.mk (below_on HB.out HB.out.size hs)
  have zs1 := Aside0.mk hs.size
  clear hs
  obtain ⟨kk1, e_1⟩ := E0.out
  replace e_1 := Aside0.mk e_1
  refine (laws_szStripe.calls kk1 _ _ l0_0 _ _ l0_1 1048576 s_1 W1 (Kd.C_below HR0_0.out HB.out) HC0_0.out (Kd.C_below HR0_1.out HB.out) HC0_1.out e_1.out).mono ?_
  rintro e w1 ⟨rfl, hb⟩
  clear e_1
  have zc1 := Aside0.mk hb.size
  replace hcaS_0 := pw_cell_below hb hcaS_0
  replace hcaS_1 := pw_cell_below hb hcaS_1
  replace hlaS : w.heap.size < w1.heap.size := Nat.lt_of_lt_of_le hlaS hb.size
  replace HB := Aside0.mk (below_on HB.out HB.out.size hb)
  clear hb
  have hg2 := decide_eq_true (show s_1 < 0 by have := G2.out; omega)
  go_wp2
  go_ret
  exact ⟨rfl, by repeat (first | exact HB.out | apply below_alloc | apply below_drew1 | apply pw_below_drewN)⟩
 ·obtain ⟨s_1, t_aS_0, t_aS_1, t_aLost_0, r_0, r_1, r_2, G1, E0, G2, E2, E4, E6, E7, E8, E9, E10, E11, HMT2, HMI, HT0, HT1, HT2, HT3, HT4⟩ := h
  replace G1 := Aside0.mk G1
  replace E0 := Aside0.mk E0
  replace G2 := Aside0.mk G2
  replace E2 := Aside0.mk E2
  replace E4 := Aside0.mk E4
  replace E6 := Aside0.mk E6
  replace E7 := Aside0.mk E7
  replace E8 := Aside0.mk E8
  replace E9 := Aside0.mk E9
  replace E10 := Aside0.mk E10
  replace E11 := Aside0.mk E11
  replace HMT2 := Aside0.mk HMT2
  replace HMI := Aside0.mk HMI
  replace HT0 := Aside0.mk HT0
  replace HT1 := Aside0.mk HT1
  replace HT2 := Aside0.mk HT2
  replace HT3 := Aside0.mk HT3
  replace HT4 := Aside0.mk HT4
  go_enter Try.func3, Try.ntmps3
  have hg1 := decide_eq_false (show ¬ (1048576 < (l1.length : Int)) by have := G1.out; omega)
  have hg1b : decide (1048576 < l1.length) = false := decide_eq_false (by have := G1.out; omega)
  go_wp2_with fail
  refine calls_named fun W1 hW => ?_
  have hs : Below w.heap.size w W1 := by rw [hW]; repeat (first | exact Below.refl _ _ | apply below_alloc | apply below_drew1 | apply pw_below_drewN)
  have hcaS_0 : W1.cell? ⟨w.heap.size, 0, none⟩ = some (.slice A0_0 l0_0.length c0_0) := by rw [hW]; go_simp
  have hcaS_1 : W1.cell? ⟨w.heap.size, 1, none⟩ = some (.slice A0_1 l0_1.length c0_1) := by rw [hW]; go_simp
  have hlaS : w.heap.size < W1.heap.size := by rw [hW]; simp <;> omega
  have zlaS := Aside0.mk hlaS
  clear hW
  replace HB := Aside0.mk (below_on HB.out HB.out.size hs)
  have zs1 := Aside0.mk hs.size
  clear hs
  obtain ⟨kk1, e_1⟩ := E0.out
  replace e_1 := Aside0.mk e_1
  refine (laws_szStripe.calls kk1 _ _ l0_0 _ _ l0_1 1048576 s_1 W1 (Kd.C_below HR0_0.out HB.out) HC0_0.out (Kd.C_below HR0_1.out HB.out) HC0_1.out e_1.out).mono ?_
  rintro e w1 ⟨rfl, hb⟩
  clear e_1
  have zc1 := Aside0.mk hb.size
  replace hcaS_0 := pw_cell_below hb hcaS_0
  replace hcaS_1 := pw_cell_below hb hcaS_1
  replace hlaS : w.heap.size < w1.heap.size := Nat.lt_of_lt_of_le hlaS hb.size
  replace HB := Aside0.mk (below_on HB.out HB.out.size hb)
  clear hb
  have hg2 := decide_eq_false (show ¬ (s_1 < 0) by have := G2.out; omega)
  go_wp2_with fail
  refine calls_named fun W2 hW => ?_
  have hs : Below w1.heap.size w1 W2 := by rw [hW]; repeat (first | exact Below.refl _ _ | apply below_alloc | apply below_drew1 | apply pw_below_drewN)
  clear hW
  replace hcaS_0 := pw_cell_below hs hcaS_0
  replace hcaS_1 := pw_cell_below hs hcaS_1
  replace hlaS : w.heap.size < W2.heap.size := Nat.lt_of_lt_of_le hlaS hs.size
  replace HB := Aside0.mk (below_on HB.out HB.out.size hs)
  have zs2 := Aside0.mk hs.size
  clear hs
  obtain ⟨kk2, e_2⟩ := E2.out
  replace e_2 := Aside0.mk e_2
  refine (laws_toStripe.calls kk2 _ _ l0_0 _ _ l0_1 t_aS_0 t_aS_1 W2 (Kd.C_below HR0_0.out HB.out) HC0_0.out (Kd.C_below HR0_1.out HB.out) HC0_1.out e_2.out).mono ?_
  rintro e w2 ⟨v2_0, v2_1, rfl, h2_0, h2_1, hb⟩
  clear e_2
  have HO2_0 := OwnR.new (b := w.heap.size) h2_0 HB.out.size
  have HO2_1 := OwnR.new (b := w.heap.size) h2_1 HB.out.size
  have HD2_0 : Aside0 (∀ k_, some k_ = (v2_0 : Value).ownBlock → ¬ some k_ = (v2_1 : Value).ownBlock) := ⟨fun k_ h_ => by have q_ := h2_0.1 k_ h_.symm; first | exact q_ | exact q_.1⟩
  clear h2_0
  clear h2_1
  have zc2 := Aside0.mk hb.size
  replace hcaS_0 := pw_cell_below hb hcaS_0
  replace hcaS_1 := pw_cell_below hb hcaS_1
  replace hlaS : w.heap.size < w2.heap.size := Nat.lt_of_lt_of_le hlaS hb.size
  replace HB := Aside0.mk (below_on HB.out HB.out.size hb)
  clear hb
  obtain ⟨A2_0, c2_0, rfl⟩ := HO2_0.slice
  obtain ⟨A2_1, c2_1, rfl⟩ := HO2_1.slice
  go_wp2_with fail
  refine calls_named fun W3 hW => ?_
  have hs : Below w2.heap.size w2 W3 := by rw [hW]; repeat (first | exact Below.refl _ _ | apply below_alloc | apply below_drew1 | apply pw_below_drewN)
  clear hW
  replace hcaS_0 := pw_cell_below hs hcaS_0
  replace hcaS_1 := pw_cell_below hs hcaS_1
  replace HO2_0 := HO2_0.below hs
  replace HO2_1 := HO2_1.below hs
  replace hlaS : w.heap.size < W3.heap.size := Nat.lt_of_lt_of_le hlaS hs.size
  replace HB := Aside0.mk (below_on HB.out HB.out.size hs)
  have zs3 := Aside0.mk hs.size
  clear hs
  obtain ⟨kk3, e_3⟩ := E4.out
  replace e_3 := Aside0.mk e_3
  refine (laws_toIntS.calls kk3 _ _ l1 t_aLost_0 W3 (Kd.C_below HR1.out HB.out) HC1.out e_3.out).mono ?_
  rintro e w3 ⟨v3_0, rfl, h3_0, hb⟩
  clear e_3
  have HO3_0 := OwnR.new (b := w.heap.size) h3_0 HB.out.size
  clear h3_0
  have zc3 := Aside0.mk hb.size
  replace hcaS_0 := pw_cell_below hb hcaS_0
  replace hcaS_1 := pw_cell_below hb hcaS_1
  replace HO2_0 := HO2_0.below hb
  replace HO2_1 := HO2_1.below hb
  replace hlaS : w.heap.size < w3.heap.size := Nat.lt_of_lt_of_le hlaS hb.size
  replace HB := Aside0.mk (below_on HB.out HB.out.size hb)
  clear hb
  obtain ⟨A3_0, c3_0, rfl⟩ := HO3_0.slice
  go_wp2_with fail
  refine calls_named fun W4 hW => ?_
  have hs : Below w3.heap.size w3 W4 := by rw [hW]; repeat (first | exact Below.refl _ _ | apply below_alloc | apply below_drew1 | apply pw_below_drewN)
  clear hW
  replace hcaS_0 := pw_cell_below hs hcaS_0
  replace hcaS_1 := pw_cell_below hs hcaS_1
  replace HO2_0 := HO2_0.below hs
  replace HO2_1 := HO2_1.below hs
  replace HO3_0 := HO3_0.below hs
  replace hlaS : w.heap.size < W4.heap.size := Nat.lt_of_lt_of_le hlaS hs.size
  replace HB := Aside0.mk (below_on HB.out HB.out.size hs)
  have zs4 := Aside0.mk hs.size
  clear hs
  obtain ⟨kk4, e_4⟩ := E6.out
  replace e_4 := Aside0.mk e_4
  refine (spec_MendStripe.calls kk4 _ _ t_aS_0 _ _ t_aS_1 _ _ t_aLost_0 r_0 r_1 r_2 W4 HO2_0.C HO2_0.cap HO2_1.C HO2_1.cap HO3_0.C HO3_0.cap e_4.out).mono ?_
  rintro e w4 ⟨v4_0, v4_1, rfl, h4_0, h4_1, hb⟩
  clear e_4
  have HO4_0 := OwnR.new (b := w.heap.size) h4_0 HB.out.size
  have HO4_1 := OwnR.new (b := w.heap.size) h4_1 HB.out.size
  have HD4_0 : Aside0 (∀ k_, some k_ = (v4_0 : Value).ownBlock → ¬ some k_ = (v4_1 : Value).ownBlock) := ⟨fun k_ h_ => by have q_ := h4_0.1 k_ h_.symm; first | exact q_ | exact q_.1⟩
  clear h4_0
  clear h4_1
  have zc4 := Aside0.mk hb.size
  replace hcaS_0 := pw_cell_below hb hcaS_0
  replace hcaS_1 := pw_cell_below hb hcaS_1
  replace HO2_0 := HO2_0.below hb
  replace HO2_1 := HO2_1.below hb
  replace HO3_0 := HO3_0.below hb
  replace hlaS : w.heap.size < w4.heap.size := Nat.lt_of_lt_of_le hlaS hb.size
  replace HB := Aside0.mk (below_on HB.out HB.out.size hb)
  clear hb
  obtain ⟨A4_0, c4_0, rfl⟩ := HO4_0.slice
  obtain ⟨A4_1, c4_1, rfl⟩ := HO4_1.slice
  go_wp2_with fail
  refine calls_named fun W5 hW => ?_
  have hs : Below w4.heap.size w4 W5 := by rw [hW]; repeat (first | exact Below.refl _ _ | apply below_alloc | apply below_drew1 | apply pw_below_drewN)
  have hcw0_0 : W5.cell? ⟨w4.heap.size, 0, none⟩ = some (.slice A4_0 r_0.length c4_0) := by rw [hW]; go_simp
  have hcw0_1 : W5.cell? ⟨w4.heap.size, 1, none⟩ = some (.slice A4_1 r_1.length c4_1) := by rw [hW]; go_simp
  have hlw0 : w4.heap.size < W5.heap.size := by rw [hW]; simp <;> omega
  have zlw0 := Aside0.mk hlw0
  clear hW
  replace hcaS_0 := pw_cell_below hs hcaS_0
  replace hcaS_1 := pw_cell_below hs hcaS_1
  replace HO2_0 := HO2_0.below hs
  replace HO2_1 := HO2_1.below hs
  replace HO3_0 := HO3_0.below hs
  replace HO4_0 := HO4_0.below hs
  replace HO4_1 := HO4_1.below hs
  replace hlaS : w.heap.size < W5.heap.size := Nat.lt_of_lt_of_le hlaS hs.size
  replace HB := Aside0.mk (below_on HB.out HB.out.size hs)
  have zs5 := Aside0.mk hs.size
  clear hs
  obtain ⟨kk5, e_5⟩ := E2.out
  replace e_5 := Aside0.mk e_5
  refine (laws_toStripe.calls kk5 _ _ l0_0 _ _ l0_1 t_aS_0 t_aS_1 W5 (Kd.C_below HR0_0.out HB.out) HC0_0.out (Kd.C_below HR0_1.out HB.out) HC0_1.out e_5.out).mono ?_
  rintro e w5 ⟨v5_0, v5_1, rfl, h5_0, h5_1, hb⟩
  clear e_5
  have HO5_0 := OwnR.new (b := w.heap.size) h5_0 HB.out.size
  have HO5_1 := OwnR.new (b := w.heap.size) h5_1 HB.out.size
  have HD5_0 : Aside0 (∀ k_, some k_ = (v5_0 : Value).ownBlock → ¬ some k_ = (v5_1 : Value).ownBlock) := ⟨fun k_ h_ => by have q_ := h5_0.1 k_ h_.symm; first | exact q_ | exact q_.1⟩
  clear h5_0
  clear h5_1
  have zc5 := Aside0.mk hb.size
  replace hcaS_0 := pw_cell_below hb hcaS_0
  replace hcaS_1 := pw_cell_below hb hcaS_1
  replace hcw0_0 := pw_cell_below hb hcw0_0
  replace hcw0_1 := pw_cell_below hb hcw0_1
  replace HO2_0 := HO2_0.below hb
  replace HO2_1 := HO2_1.below hb
  replace HO3_0 := HO3_0.below hb
  replace HO4_0 := HO4_0.below hb
  replace HO4_1 := HO4_1.below hb
  replace hlaS : w.heap.size < w5.heap.size := Nat.lt_of_lt_of_le hlaS hb.size
  replace hlw0 : w4.heap.size < w5.heap.size := Nat.lt_of_lt_of_le hlw0 hb.size
  replace HB := Aside0.mk (below_on HB.out HB.out.size hb)
  clear hb
  obtain ⟨A5_0, c5_0, rfl⟩ := HO5_0.slice
  obtain ⟨A5_1, c5_1, rfl⟩ := HO5_1.slice
  go_wp2_with fail
  refine calls_named fun W6 hW => ?_
  have hs : Below w5.heap.size w5 W6 := by rw [hW]; repeat (first | exact Below.refl _ _ | apply below_alloc | apply below_drew1 | apply pw_below_drewN)
  have hcx0_0 : W6.cell? ⟨w5.heap.size, 0, none⟩ = some (.slice A5_0 t_aS_0.length c5_0) := by rw [hW]; go_simp
  have hcx0_1 : W6.cell? ⟨w5.heap.size, 1, none⟩ = some (.slice A5_1 t_aS_1.length c5_1) := by rw [hW]; go_simp
  have hlx0 : w5.heap.size < W6.heap.size := by rw [hW]; simp <;> omega
  have zlx0 := Aside0.mk hlx0
  clear hW
  replace hcaS_0 := pw_cell_below hs hcaS_0
  replace hcaS_1 := pw_cell_below hs hcaS_1
  replace hcw0_0 := pw_cell_below hs hcw0_0
  replace hcw0_1 := pw_cell_below hs hcw0_1
  replace HO2_0 := HO2_0.below hs
  replace HO2_1 := HO2_1.below hs
  replace HO3_0 := HO3_0.below hs
  replace HO4_0 := HO4_0.below hs
  replace HO4_1 := HO4_1.below hs
  replace HO5_0 := HO5_0.below hs
  replace HO5_1 := HO5_1.below hs
  replace hlaS : w.heap.size < W6.heap.size := Nat.lt_of_lt_of_le hlaS hs.size
  replace hlw0 : w4.heap.size < W6.heap.size := Nat.lt_of_lt_of_le hlw0 hs.size
  replace HB := Aside0.mk (below_on HB.out HB.out.size hs)
  have zs6 := Aside0.mk hs.size
  clear hs
  obtain ⟨kk6, e_6⟩ := E4.out
  replace e_6 := Aside0.mk e_6
  refine (laws_toIntS.calls kk6 _ _ l1 t_aLost_0 W6 (Kd.C_below HR1.out HB.out) HC1.out e_6.out).mono ?_
  rintro e w6 ⟨v6_0, rfl, h6_0, hb⟩
  clear e_6
  have HO6_0 := OwnR.new (b := w.heap.size) h6_0 HB.out.size
  clear h6_0
  have zc6 := Aside0.mk hb.size
  replace hcaS_0 := pw_cell_below hb hcaS_0
  replace hcaS_1 := pw_cell_below hb hcaS_1
  replace hcw0_0 := pw_cell_below hb hcw0_0
  replace hcw0_1 := pw_cell_below hb hcw0_1
  replace hcx0_0 := pw_cell_below hb hcx0_0
  replace hcx0_1 := pw_cell_below hb hcx0_1
  replace HO2_0 := HO2_0.below hb
  replace HO2_1 := HO2_1.below hb
  replace HO3_0 := HO3_0.below hb
  replace HO4_0 := HO4_0.below hb
  replace HO4_1 := HO4_1.below hb
  replace HO5_0 := HO5_0.below hb
  replace HO5_1 := HO5_1.below hb
  replace hlaS : w.heap.size < w6.heap.size := Nat.lt_of_lt_of_le hlaS hb.size
  replace hlw0 : w4.heap.size < w6.heap.size := Nat.lt_of_lt_of_le hlw0 hb.size
  replace hlx0 : w5.heap.size < w6.heap.size := Nat.lt_of_lt_of_le hlx0 hb.size
  replace HB := Aside0.mk (below_on HB.out HB.out.size hb)
  clear hb
  obtain ⟨A6_0, c6_0, rfl⟩ := HO6_0.slice
  go_wp2_with fail
  refine calls_named fun W7 hW => ?_
  have hs : Below w6.heap.size w6 W7 := by rw [hW]; repeat (first | exact Below.refl _ _ | apply below_alloc | apply below_drew1 | apply pw_below_drewN)
  clear hW
  replace hcaS_0 := pw_cell_below hs hcaS_0
  replace hcaS_1 := pw_cell_below hs hcaS_1
  replace hcw0_0 := pw_cell_below hs hcw0_0
  replace hcw0_1 := pw_cell_below hs hcw0_1
  replace hcx0_0 := pw_cell_below hs hcx0_0
  replace hcx0_1 := pw_cell_below hs hcx0_1
  replace HO2_0 := HO2_0.below hs
  replace HO2_1 := HO2_1.below hs
  replace HO3_0 := HO3_0.below hs
  replace HO4_0 := HO4_0.below hs
  replace HO4_1 := HO4_1.below hs
  replace HO5_0 := HO5_0.below hs
  replace HO5_1 := HO5_1.below hs
  replace HO6_0 := HO6_0.below hs
  replace hlaS : w.heap.size < W7.heap.size := Nat.lt_of_lt_of_le hlaS hs.size
  replace hlw0 : w4.heap.size < W7.heap.size := Nat.lt_of_lt_of_le hlw0 hs.size
  replace hlx0 : w5.heap.size < W7.heap.size := Nat.lt_of_lt_of_le hlx0 hs.size
  replace HB := Aside0.mk (below_on HB.out HB.out.size hs)
  have zs7 := Aside0.mk hs.size
  clear hs
  obtain ⟨kk7, e_7⟩ := E7.out
  replace e_7 := Aside0.mk e_7
  refine (impl_MendStripe.calls kk7 _ _ t_aS_0 _ _ t_aS_1 _ _ t_aLost_0 r_0 r_1 r_2 W7 HO5_0.C HO5_0.cap HO5_1.C HO5_1.cap HO6_0.C HO6_0.cap e_7.out).mono ?_
  rintro e w7 ⟨v7_0, v7_1, rfl, h7_0, h7_1, hb⟩
  clear e_7
  have HO7_0 := OwnR.new (b := w.heap.size) h7_0 HB.out.size
  have HO7_1 := OwnR.new (b := w.heap.size) h7_1 HB.out.size
  have HD7_0 : Aside0 (∀ k_, some k_ = (v7_0 : Value).ownBlock → ¬ some k_ = (v7_1 : Value).ownBlock) := ⟨fun k_ h_ => by have q_ := h7_0.1 k_ h_.symm; first | exact q_ | exact q_.1⟩
  clear h7_0
  clear h7_1
  have zc7 := Aside0.mk hb.size
  replace hcaS_0 := pw_cell_below hb hcaS_0
  replace hcaS_1 := pw_cell_below hb hcaS_1
  replace hcw0_0 := pw_cell_below hb hcw0_0
  replace hcw0_1 := pw_cell_below hb hcw0_1
  replace hcx0_0 := pw_cell_below hb hcx0_0
  replace hcx0_1 := pw_cell_below hb hcx0_1
  replace HO2_0 := HO2_0.below hb
  replace HO2_1 := HO2_1.below hb
  replace HO3_0 := HO3_0.below hb
  replace HO4_0 := HO4_0.below hb
  replace HO4_1 := HO4_1.below hb
  replace HO5_0 := HO5_0.below hb
  replace HO5_1 := HO5_1.below hb
  replace HO6_0 := HO6_0.below hb
  replace hlaS : w.heap.size < w7.heap.size := Nat.lt_of_lt_of_le hlaS hb.size
  replace hlw0 : w4.heap.size < w7.heap.size := Nat.lt_of_lt_of_le hlw0 hb.size
  replace hlx0 : w5.heap.size < w7.heap.size := Nat.lt_of_lt_of_le hlx0 hb.size
  replace HB := Aside0.mk (below_on HB.out HB.out.size hb)
  clear hb
  obtain ⟨A7_0, c7_0, rfl⟩ := HO7_0.slice
  obtain ⟨A7_1, c7_1, rfl⟩ := HO7_1.slice
  go_wp2_with fail
  refine calls_named fun W8 hW => ?_
  have hs : Below w7.heap.size w7 W8 := by rw [hW]; repeat (first | exact Below.refl _ _ | apply below_alloc | apply below_drew1 | apply pw_below_drewN)
  have hcg0_0 : W8.cell? ⟨w7.heap.size, 0, none⟩ = some (.slice A7_0 r_0.length c7_0) := by rw [hW]; go_simp
  have hcg0_1 : W8.cell? ⟨w7.heap.size, 1, none⟩ = some (.slice A7_1 r_1.length c7_1) := by rw [hW]; go_simp
  have hlg0 : w7.heap.size < W8.heap.size := by rw [hW]; simp <;> omega
  have zlg0 := Aside0.mk hlg0
  clear hW
  replace hcaS_0 := pw_cell_below hs hcaS_0
  replace hcaS_1 := pw_cell_below hs hcaS_1
  replace hcw0_0 := pw_cell_below hs hcw0_0
  replace hcw0_1 := pw_cell_below hs hcw0_1
  replace hcx0_0 := pw_cell_below hs hcx0_0
  replace hcx0_1 := pw_cell_below hs hcx0_1
  replace HO2_0 := HO2_0.below hs
  replace HO2_1 := HO2_1.below hs
  replace HO3_0 := HO3_0.below hs
  replace HO4_0 := HO4_0.below hs
  replace HO4_1 := HO4_1.below hs
  replace HO5_0 := HO5_0.below hs
  replace HO5_1 := HO5_1.below hs
  replace HO6_0 := HO6_0.below hs
  replace HO7_0 := HO7_0.below hs
  replace HO7_1 := HO7_1.below hs
  replace hlaS : w.heap.size < W8.heap.size := Nat.lt_of_lt_of_le hlaS hs.size
  replace hlw0 : w4.heap.size < W8.heap.size := Nat.lt_of_lt_of_le hlw0 hs.size
  replace hlx0 : w5.heap.size < W8.heap.size := Nat.lt_of_lt_of_le hlx0 hs.size
  replace HB := Aside0.mk (below_on HB.out HB.out.size hs)
  have zs8 := Aside0.mk hs.size
  clear hs
  obtain ⟨kk8, e_8⟩ := E8.out
  replace e_8 := Aside0.mk e_8
  refine (laws_eqStripe.calls kk8 _ _ r_0 _ _ r_1 _ _ r_0 _ _ r_1 true W8 HO7_0.C HO7_0.cap HO7_1.C HO7_1.cap HO4_0.C HO4_0.cap HO4_1.C HO4_1.cap e_8.out).mono ?_
  rintro e w8 ⟨rfl, hb⟩
  clear e_8
  have zc8 := Aside0.mk hb.size
  replace hcaS_0 := pw_cell_below hb hcaS_0
  replace hcaS_1 := pw_cell_below hb hcaS_1
  replace hcw0_0 := pw_cell_below hb hcw0_0
  replace hcw0_1 := pw_cell_below hb hcw0_1
  replace hcx0_0 := pw_cell_below hb hcx0_0
  replace hcx0_1 := pw_cell_below hb hcx0_1
  replace hcg0_0 := pw_cell_below hb hcg0_0
  replace hcg0_1 := pw_cell_below hb hcg0_1
  replace HO2_0 := HO2_0.below hb
  replace HO2_1 := HO2_1.below hb
  replace HO3_0 := HO3_0.below hb
  replace HO4_0 := HO4_0.below hb
  replace HO4_1 := HO4_1.below hb
  replace HO5_0 := HO5_0.below hb
  replace HO5_1 := HO5_1.below hb
  replace HO6_0 := HO6_0.below hb
  replace HO7_0 := HO7_0.below hb
  replace HO7_1 := HO7_1.below hb
  replace hlaS : w.heap.size < w8.heap.size := Nat.lt_of_lt_of_le hlaS hb.size
  replace hlw0 : w4.heap.size < w8.heap.size := Nat.lt_of_lt_of_le hlw0 hb.size
  replace hlx0 : w5.heap.size < w8.heap.size := Nat.lt_of_lt_of_le hlx0 hb.size
  replace hlg0 : w7.heap.size < w8.heap.size := Nat.lt_of_lt_of_le hlg0 hb.size
  replace HB := Aside0.mk (below_on HB.out HB.out.size hb)
  clear hb
  go_wp2_with fail
  have hd : Below w8.heap.size w8 w8.drew := below_drew1 (Below.refl _ _)
  refine start_ (n := 5) (S := fun w' => w'.cell? ⟨w5.heap.size, 0, none⟩ = some (.slice A5_0 t_aS_0.length c5_0) ∧ w'.cell? ⟨w5.heap.size, 1, none⟩ = some (.slice A5_1 t_aS_1.length c5_1) ∧ w'.cell? ⟨w.heap.size, 0, none⟩ = some (.slice A0_0 l0_0.length c0_0) ∧ w'.cell? ⟨w.heap.size, 1, none⟩ = some (.slice A0_1 l0_1.length c0_1)) (ds := []) #[false, false, false, false, false] (by kernel_rfl) rfl rfl ⟨pw_cell_below hd hcx0_0, pw_cell_below hd hcx0_1, pw_cell_below hd hcaS_0, pw_cell_below hd hcaS_1⟩ (fun hHeld => ?_)
  generalize w8.drew = W9 at hd hHeld ⊢
  have zs9 := Aside0.mk hd.size
  replace hcaS_0 := pw_cell_below hd hcaS_0
  replace hcaS_1 := pw_cell_below hd hcaS_1
  replace hcw0_0 := pw_cell_below hd hcw0_0
  replace hcw0_1 := pw_cell_below hd hcw0_1
  replace hcx0_0 := pw_cell_below hd hcx0_0
  replace hcx0_1 := pw_cell_below hd hcx0_1
  replace hcg0_0 := pw_cell_below hd hcg0_0
  replace hcg0_1 := pw_cell_below hd hcg0_1
  replace HO2_0 := HO2_0.below hd
  replace HO2_1 := HO2_1.below hd
  replace HO3_0 := HO3_0.below hd
  replace HO4_0 := HO4_0.below hd
  replace HO4_1 := HO4_1.below hd
  replace HO5_0 := HO5_0.below hd
  replace HO5_1 := HO5_1.below hd
  replace HO6_0 := HO6_0.below hd
  replace HO7_0 := HO7_0.below hd
  replace HO7_1 := HO7_1.below hd
  replace hlaS : w.heap.size < W9.heap.size := Nat.lt_of_lt_of_le hlaS hd.size
  replace hlw0 : w4.heap.size < W9.heap.size := Nat.lt_of_lt_of_le hlw0 hd.size
  replace hlx0 : w5.heap.size < W9.heap.size := Nat.lt_of_lt_of_le hlx0 hd.size
  replace hlg0 : w7.heap.size < W9.heap.size := Nat.lt_of_lt_of_le hlg0 hd.size
  replace HB := Aside0.mk (below_on HB.out HB.out.size hd)
  clear hd
  refine take_ (i := 0) (N := some 52) (v := ?_) (a' := ?_) #[true, false, false, false, false] rfl rfl (by kernel_rfl) (fun _ _ _ h => h) (Or.inl ⟨by rfl, ?_⟩) hHeld ?_ ?_
  rotate_left
  ·rintro w' ⟨s0, s1, s2, s3⟩
   go_simp
   with_reducible rfl
  rotate_left
  ·simp only [Act.put, List.setIfInBounds_toArray, List.set_cons_zero, List.set_cons_succ, i64_w, i32_w]
   rfl
  refine take_ (i := 1) (N := some 53) (v := ?_) (a' := ?_) #[true, true, false, false, false] rfl rfl (by kernel_rfl) (fun _ _ _ h => h) (Or.inl ⟨by rfl, ?_⟩) hHeld ?_ ?_
  rotate_left
  ·rintro w' ⟨s0, s1, s2, s3⟩
   go_simp
   with_reducible rfl
  rotate_left
  ·simp only [Act.put, List.setIfInBounds_toArray, List.set_cons_zero, List.set_cons_succ, i64_w, i32_w]
   rfl
  refine one_ (i := 2) (N := some 54) #[true, true, true, false, false] rfl rfl (by kernel_rfl) (by decide) (fun K hK => ?_)
  refine goes_ Try.func17 (by kernel_rfl) rfl #[.agg #[.slice A0_0 l0_0.length c0_0, .slice A0_1 l0_1.length c0_1]] (by rfl) rfl rfl (by (try simp only [List.map_toArray, List.map_cons, List.map_nil]); first | done | rfl | (simp only [List.length_drop, List.length_take]; rfl)) ?_
  obtain ⟨kk10, e_10⟩ := E2.out
  replace e_10 := Aside0.mk e_10
  refine (laws_toStripe.calls kk10 _ _ l0_0 _ _ l0_1 t_aS_0 t_aS_1 W9 (Kd.C_below HR0_0.out HB.out) HC0_0.out (Kd.C_below HR0_1.out HB.out) HC0_1.out e_10.out).mono ?_
  rintro e w10 ⟨v10_0, v10_1, rfl, h10_0, h10_1, hb⟩
  refine ⟨_, rfl, ?_⟩
  clear e_10
  have HO10_0 := OwnR.new (b := w.heap.size) h10_0 HB.out.size
  have HO10_1 := OwnR.new (b := w.heap.size) h10_1 HB.out.size
  have HD10_0 : Aside0 (∀ k_, some k_ = (v10_0 : Value).ownBlock → ¬ some k_ = (v10_1 : Value).ownBlock) := ⟨fun k_ h_ => by have q_ := h10_0.1 k_ h_.symm; first | exact q_ | exact q_.1⟩
  clear h10_0
  clear h10_1
  have zc10 := Aside0.mk hb.size
  replace hcaS_0 := pw_cell_below hb hcaS_0
  replace hcaS_1 := pw_cell_below hb hcaS_1
  replace hcw0_0 := pw_cell_below hb hcw0_0
  replace hcw0_1 := pw_cell_below hb hcw0_1
  replace hcx0_0 := pw_cell_below hb hcx0_0
  replace hcx0_1 := pw_cell_below hb hcx0_1
  replace hcg0_0 := pw_cell_below hb hcg0_0
  replace hcg0_1 := pw_cell_below hb hcg0_1
  replace HO2_0 := HO2_0.below hb
  replace HO2_1 := HO2_1.below hb
  replace HO3_0 := HO3_0.below hb
  replace HO4_0 := HO4_0.below hb
  replace HO4_1 := HO4_1.below hb
  replace HO5_0 := HO5_0.below hb
  replace HO5_1 := HO5_1.below hb
  replace HO6_0 := HO6_0.below hb
  replace HO7_0 := HO7_0.below hb
  replace HO7_1 := HO7_1.below hb
  replace hlaS : w.heap.size < w10.heap.size := Nat.lt_of_lt_of_le hlaS hb.size
  replace hlw0 : w4.heap.size < w10.heap.size := Nat.lt_of_lt_of_le hlw0 hb.size
  replace hlx0 : w5.heap.size < w10.heap.size := Nat.lt_of_lt_of_le hlx0 hb.size
  replace hlg0 : w7.heap.size < w10.heap.size := Nat.lt_of_lt_of_le hlg0 hb.size
  replace HB := Aside0.mk (below_on HB.out HB.out.size hb)
  clear hb
  obtain ⟨A10_0, c10_0, rfl⟩ := HO10_0.slice
  obtain ⟨A10_1, c10_1, rfl⟩ := HO10_1.slice
  refine hK.out _ _ ⟨hcx0_0, hcx0_1, hcaS_0, hcaS_1⟩ (fun hHeld => ?_)
  clear hK K
  refine norm_ (a' := ?_) ?_ ?_
  rotate_left
  ·show Act.put _ (some 54) _ = _
   simp only [Act.put, List.setIfInBounds_toArray, List.set_cons_zero, List.set_cons_succ, i64_w, i32_w]
   rfl
  refine one_ (i := 3) (N := some 55) #[true, true, true, true, false] rfl rfl (by kernel_rfl) (by decide) (fun K hK => ?_)
  refine goes_ Try.func20 (by kernel_rfl) rfl #[.agg #[.slice A5_0 t_aS_0.length c5_0, .slice A5_1 t_aS_1.length c5_1], .agg #[.slice A10_0 t_aS_0.length c10_0, .slice A10_1 t_aS_1.length c10_1]] (by rfl) rfl rfl (by (try simp only [List.map_toArray, List.map_cons, List.map_nil]); first | done | rfl | (simp only [List.length_drop, List.length_take]; rfl)) ?_
  obtain ⟨kk11, e_11⟩ := E9.out
  replace e_11 := Aside0.mk e_11
  refine (laws_eqStripe.calls kk11 _ _ t_aS_0 _ _ t_aS_1 _ _ t_aS_0 _ _ t_aS_1 true w10 HO5_0.C HO5_0.cap HO5_1.C HO5_1.cap HO10_0.C HO10_0.cap HO10_1.C HO10_1.cap e_11.out).mono ?_
  rintro e w11 ⟨rfl, hb⟩
  refine ⟨_, rfl, ?_⟩
  clear e_11
  have zc11 := Aside0.mk hb.size
  replace hcaS_0 := pw_cell_below hb hcaS_0
  replace hcaS_1 := pw_cell_below hb hcaS_1
  replace hcw0_0 := pw_cell_below hb hcw0_0
  replace hcw0_1 := pw_cell_below hb hcw0_1
  replace hcx0_0 := pw_cell_below hb hcx0_0
  replace hcx0_1 := pw_cell_below hb hcx0_1
  replace hcg0_0 := pw_cell_below hb hcg0_0
  replace hcg0_1 := pw_cell_below hb hcg0_1
  replace HO2_0 := HO2_0.below hb
  replace HO2_1 := HO2_1.below hb
  replace HO3_0 := HO3_0.below hb
  replace HO4_0 := HO4_0.below hb
  replace HO4_1 := HO4_1.below hb
  replace HO5_0 := HO5_0.below hb
  replace HO5_1 := HO5_1.below hb
  replace HO6_0 := HO6_0.below hb
  replace HO7_0 := HO7_0.below hb
  replace HO7_1 := HO7_1.below hb
  replace HO10_0 := HO10_0.below hb
  replace HO10_1 := HO10_1.below hb
  replace hlaS : w.heap.size < w11.heap.size := Nat.lt_of_lt_of_le hlaS hb.size
  replace hlw0 : w4.heap.size < w11.heap.size := Nat.lt_of_lt_of_le hlw0 hb.size
  replace hlx0 : w5.heap.size < w11.heap.size := Nat.lt_of_lt_of_le hlx0 hb.size
  replace hlg0 : w7.heap.size < w11.heap.size := Nat.lt_of_lt_of_le hlg0 hb.size
  replace HB := Aside0.mk (below_on HB.out HB.out.size hb)
  clear hb
  refine hK.out _ _ ⟨hcx0_0, hcx0_1, hcaS_0, hcaS_1⟩ (fun hHeld => ?_)
  clear hK K
  refine norm_ (a' := ?_) ?_ ?_
  rotate_left
  ·show Act.put _ (some 55) _ = _
   simp only [Act.put, List.setIfInBounds_toArray, List.set_cons_zero, List.set_cons_succ, i64_w, i32_w]
   rfl
  refine pure_ (i := 4) (N := some 56) (v := ?_) (a' := ?_) #[true, true, true, true, true] rfl rfl (by kernel_rfl) (fun _ _ _ h => h) (Or.inl ⟨by rfl, ?_⟩) ?_ ?_
  rotate_left
  ·intro w'
   go_simp
   with_reducible rfl
  rotate_left
  ·simp only [Act.put, List.setIfInBounds_toArray, List.set_cons_zero, List.set_cons_succ, i64_w, i32_w]
   rfl
  refine done_ (by kernel_rfl) ?_
  go_wp2_with fail
  refine calls_named fun W12 hW => ?_
  have hs : Below w11.heap.size w11 W12 := by rw [hW]; repeat (first | exact Below.refl _ _ | apply below_alloc | apply below_drew1 | apply pw_below_drewN)
  clear hW
  replace hcaS_0 := pw_cell_below hs hcaS_0
  replace hcaS_1 := pw_cell_below hs hcaS_1
  replace hcw0_0 := pw_cell_below hs hcw0_0
  replace hcw0_1 := pw_cell_below hs hcw0_1
  replace hcx0_0 := pw_cell_below hs hcx0_0
  replace hcx0_1 := pw_cell_below hs hcx0_1
  replace hcg0_0 := pw_cell_below hs hcg0_0
  replace hcg0_1 := pw_cell_below hs hcg0_1
  replace HO2_0 := HO2_0.below hs
  replace HO2_1 := HO2_1.below hs
  replace HO3_0 := HO3_0.below hs
  replace HO4_0 := HO4_0.below hs
  replace HO4_1 := HO4_1.below hs
  replace HO5_0 := HO5_0.below hs
  replace HO5_1 := HO5_1.below hs
  replace HO6_0 := HO6_0.below hs
  replace HO7_0 := HO7_0.below hs
  replace HO7_1 := HO7_1.below hs
  replace HO10_0 := HO10_0.below hs
  replace HO10_1 := HO10_1.below hs
  replace hlaS : w.heap.size < W12.heap.size := Nat.lt_of_lt_of_le hlaS hs.size
  replace hlw0 : w4.heap.size < W12.heap.size := Nat.lt_of_lt_of_le hlw0 hs.size
  replace hlx0 : w5.heap.size < W12.heap.size := Nat.lt_of_lt_of_le hlx0 hs.size
  replace hlg0 : w7.heap.size < W12.heap.size := Nat.lt_of_lt_of_le hlg0 hs.size
  replace HB := Aside0.mk (below_on HB.out HB.out.size hs)
  have zs12 := Aside0.mk hs.size
  clear hs
  obtain ⟨kk12, e_12⟩ := E4.out
  replace e_12 := Aside0.mk e_12
  refine (laws_toIntS.calls kk12 _ _ l1 t_aLost_0 W12 (Kd.C_below HR1.out HB.out) HC1.out e_12.out).mono ?_
  rintro e w12 ⟨v12_0, rfl, h12_0, hb⟩
  clear e_12
  have HO12_0 := OwnR.new (b := w.heap.size) h12_0 HB.out.size
  clear h12_0
  have zc12 := Aside0.mk hb.size
  replace hcaS_0 := pw_cell_below hb hcaS_0
  replace hcaS_1 := pw_cell_below hb hcaS_1
  replace hcw0_0 := pw_cell_below hb hcw0_0
  replace hcw0_1 := pw_cell_below hb hcw0_1
  replace hcx0_0 := pw_cell_below hb hcx0_0
  replace hcx0_1 := pw_cell_below hb hcx0_1
  replace hcg0_0 := pw_cell_below hb hcg0_0
  replace hcg0_1 := pw_cell_below hb hcg0_1
  replace HO2_0 := HO2_0.below hb
  replace HO2_1 := HO2_1.below hb
  replace HO3_0 := HO3_0.below hb
  replace HO4_0 := HO4_0.below hb
  replace HO4_1 := HO4_1.below hb
  replace HO5_0 := HO5_0.below hb
  replace HO5_1 := HO5_1.below hb
  replace HO6_0 := HO6_0.below hb
  replace HO7_0 := HO7_0.below hb
  replace HO7_1 := HO7_1.below hb
  replace HO10_0 := HO10_0.below hb
  replace HO10_1 := HO10_1.below hb
  replace hlaS : w.heap.size < w12.heap.size := Nat.lt_of_lt_of_le hlaS hb.size
  replace hlw0 : w4.heap.size < w12.heap.size := Nat.lt_of_lt_of_le hlw0 hb.size
  replace hlx0 : w5.heap.size < w12.heap.size := Nat.lt_of_lt_of_le hlx0 hb.size
  replace hlg0 : w7.heap.size < w12.heap.size := Nat.lt_of_lt_of_le hlg0 hb.size
  replace HB := Aside0.mk (below_on HB.out HB.out.size hb)
  clear hb
  obtain ⟨A12_0, c12_0, rfl⟩ := HO12_0.slice
  go_wp2_with fail
  refine calls_named fun W13 hW => ?_
  have hs : Below w12.heap.size w12 W13 := by rw [hW]; repeat (first | exact Below.refl _ _ | apply below_alloc | apply below_drew1 | apply pw_below_drewN)
  clear hW
  replace hcaS_0 := pw_cell_below hs hcaS_0
  replace hcaS_1 := pw_cell_below hs hcaS_1
  replace hcw0_0 := pw_cell_below hs hcw0_0
  replace hcw0_1 := pw_cell_below hs hcw0_1
  replace hcx0_0 := pw_cell_below hs hcx0_0
  replace hcx0_1 := pw_cell_below hs hcx0_1
  replace hcg0_0 := pw_cell_below hs hcg0_0
  replace hcg0_1 := pw_cell_below hs hcg0_1
  replace HO2_0 := HO2_0.below hs
  replace HO2_1 := HO2_1.below hs
  replace HO3_0 := HO3_0.below hs
  replace HO4_0 := HO4_0.below hs
  replace HO4_1 := HO4_1.below hs
  replace HO5_0 := HO5_0.below hs
  replace HO5_1 := HO5_1.below hs
  replace HO6_0 := HO6_0.below hs
  replace HO7_0 := HO7_0.below hs
  replace HO7_1 := HO7_1.below hs
  replace HO10_0 := HO10_0.below hs
  replace HO10_1 := HO10_1.below hs
  replace HO12_0 := HO12_0.below hs
  replace hlaS : w.heap.size < W13.heap.size := Nat.lt_of_lt_of_le hlaS hs.size
  replace hlw0 : w4.heap.size < W13.heap.size := Nat.lt_of_lt_of_le hlw0 hs.size
  replace hlx0 : w5.heap.size < W13.heap.size := Nat.lt_of_lt_of_le hlx0 hs.size
  replace hlg0 : w7.heap.size < W13.heap.size := Nat.lt_of_lt_of_le hlg0 hs.size
  replace HB := Aside0.mk (below_on HB.out HB.out.size hs)
  have zs13 := Aside0.mk hs.size
  clear hs
  obtain ⟨kk13, e_13⟩ := E10.out
  replace e_13 := Aside0.mk e_13
  refine (laws_eqIntS.calls kk13 _ _ t_aLost_0 _ _ t_aLost_0 true W13 HO6_0.C HO6_0.cap HO12_0.C HO12_0.cap e_13.out).mono ?_
  rintro e w13 ⟨rfl, hd⟩
  have hb := hd.below
  clear hd
  clear e_13
  have zc13 := Aside0.mk hb.size
  replace hcaS_0 := pw_cell_below hb hcaS_0
  replace hcaS_1 := pw_cell_below hb hcaS_1
  replace hcw0_0 := pw_cell_below hb hcw0_0
  replace hcw0_1 := pw_cell_below hb hcw0_1
  replace hcx0_0 := pw_cell_below hb hcx0_0
  replace hcx0_1 := pw_cell_below hb hcx0_1
  replace hcg0_0 := pw_cell_below hb hcg0_0
  replace hcg0_1 := pw_cell_below hb hcg0_1
  replace HO2_0 := HO2_0.below hb
  replace HO2_1 := HO2_1.below hb
  replace HO3_0 := HO3_0.below hb
  replace HO4_0 := HO4_0.below hb
  replace HO4_1 := HO4_1.below hb
  replace HO5_0 := HO5_0.below hb
  replace HO5_1 := HO5_1.below hb
  replace HO6_0 := HO6_0.below hb
  replace HO7_0 := HO7_0.below hb
  replace HO7_1 := HO7_1.below hb
  replace HO10_0 := HO10_0.below hb
  replace HO10_1 := HO10_1.below hb
  replace HO12_0 := HO12_0.below hb
  replace hlaS : w.heap.size < w13.heap.size := Nat.lt_of_lt_of_le hlaS hb.size
  replace hlw0 : w4.heap.size < w13.heap.size := Nat.lt_of_lt_of_le hlw0 hb.size
  replace hlx0 : w5.heap.size < w13.heap.size := Nat.lt_of_lt_of_le hlx0 hb.size
  replace hlg0 : w7.heap.size < w13.heap.size := Nat.lt_of_lt_of_le hlg0 hb.size
  replace HB := Aside0.mk (below_on HB.out HB.out.size hb)
  clear hb
  go_wp2_with fail
  refine calls_named fun W14 hW => ?_
  have hs : Below w13.heap.size w13 W14 := by rw [hW]; repeat (first | exact Below.refl _ _ | apply below_alloc | apply below_drew1 | apply pw_below_drewN)
  clear hW
  replace hcaS_0 := pw_cell_below hs hcaS_0
  replace hcaS_1 := pw_cell_below hs hcaS_1
  replace hcw0_0 := pw_cell_below hs hcw0_0
  replace hcw0_1 := pw_cell_below hs hcw0_1
  replace hcx0_0 := pw_cell_below hs hcx0_0
  replace hcx0_1 := pw_cell_below hs hcx0_1
  replace hcg0_0 := pw_cell_below hs hcg0_0
  replace hcg0_1 := pw_cell_below hs hcg0_1
  replace HO2_0 := HO2_0.below hs
  replace HO2_1 := HO2_1.below hs
  replace HO3_0 := HO3_0.below hs
  replace HO4_0 := HO4_0.below hs
  replace HO4_1 := HO4_1.below hs
  replace HO5_0 := HO5_0.below hs
  replace HO5_1 := HO5_1.below hs
  replace HO6_0 := HO6_0.below hs
  replace HO7_0 := HO7_0.below hs
  replace HO7_1 := HO7_1.below hs
  replace HO10_0 := HO10_0.below hs
  replace HO10_1 := HO10_1.below hs
  replace HO12_0 := HO12_0.below hs
  replace hlaS : w.heap.size < W14.heap.size := Nat.lt_of_lt_of_le hlaS hs.size
  replace hlw0 : w4.heap.size < W14.heap.size := Nat.lt_of_lt_of_le hlw0 hs.size
  replace hlx0 : w5.heap.size < W14.heap.size := Nat.lt_of_lt_of_le hlx0 hs.size
  replace hlg0 : w7.heap.size < W14.heap.size := Nat.lt_of_lt_of_le hlg0 hs.size
  replace HB := Aside0.mk (below_on HB.out HB.out.size hs)
  have zs14 := Aside0.mk hs.size
  clear hs
  obtain ⟨kk14, e_14⟩ := HMT2.out t_aS_0 t_aS_1 1 (by have := HT0.out; have := HT1.out; omega) (by have := HT0.out; have := HT1.out; omega)
  replace e_14 := Aside0.mk e_14
  refine (laws_markStripe.calls kk14 (fun k => some k = (.slice A5_0 t_aS_0.length c5_0 : Value).ownBlock) _ t_aS_0 (fun k => some k = (.slice A5_1 t_aS_1.length c5_1 : Value).ownBlock) _ t_aS_1 1 _ _ _ w W14 HB.out (HO5_0.tight rfl) (fun k_ h1_ h2_ => HD5_0.out k_ h1_ h2_) (HO5_1.tight rfl) (fun k_ h1_ h2_ => HD5_0.out k_ h2_ h1_) e_14.out).mono ?_
  rintro e w14 ⟨rfl, hS, hS2, hB, hk⟩
  clear e_14
  replace hk := kept_mono (P' := fun k => W5.heap.size ≤ k ∧ k < w5.heap.size) hk (fun k_ h1_ => h1_.elim (fun h2_ => HO5_0.inside h2_) (fun h2_ => HO5_1.inside h2_))
  replace HO5_0 := OwnR.marked2 rfl HO5_0 hS
  replace HO5_1 := OwnR.marked2 rfl HO5_1 hS2
  clear hS hS2
  have zc14 := Aside0.mk hk.1
  replace hcaS_0 := cell_kept hcaS_0 hk (fun h3_ => by have h4_ : W5.heap.size ≤ w.heap.size ∧ w.heap.size < w5.heap.size := h3_; clear h3_; have := zlaS.out; have := zs1.out; have := zc1.out; have := zs2.out; have := zc2.out; have := zs3.out; have := zc3.out; have := zs4.out; have := zc4.out; have := zlw0.out; have := zs5.out; have := zc5.out; have := zlx0.out; have := zs6.out; have := zc6.out; have := zs7.out; have := zc7.out; have := zlg0.out; have := zs8.out; have := zc8.out; have := zs9.out; have := zc10.out; have := zc11.out; have := zs12.out; have := zc12.out; have := zs13.out; have := zc13.out; have := zs14.out; have := zc14.out; omega)
  replace hcaS_1 := cell_kept hcaS_1 hk (fun h3_ => by have h4_ : W5.heap.size ≤ w.heap.size ∧ w.heap.size < w5.heap.size := h3_; clear h3_; have := zlaS.out; have := zs1.out; have := zc1.out; have := zs2.out; have := zc2.out; have := zs3.out; have := zc3.out; have := zs4.out; have := zc4.out; have := zlw0.out; have := zs5.out; have := zc5.out; have := zlx0.out; have := zs6.out; have := zc6.out; have := zs7.out; have := zc7.out; have := zlg0.out; have := zs8.out; have := zc8.out; have := zs9.out; have := zc10.out; have := zc11.out; have := zs12.out; have := zc12.out; have := zs13.out; have := zc13.out; have := zs14.out; have := zc14.out; omega)
  replace hcw0_0 := cell_kept hcw0_0 hk (fun h3_ => by have h4_ : W5.heap.size ≤ w4.heap.size ∧ w4.heap.size < w5.heap.size := h3_; clear h3_; have := zlaS.out; have := zs1.out; have := zc1.out; have := zs2.out; have := zc2.out; have := zs3.out; have := zc3.out; have := zs4.out; have := zc4.out; have := zlw0.out; have := zs5.out; have := zc5.out; have := zlx0.out; have := zs6.out; have := zc6.out; have := zs7.out; have := zc7.out; have := zlg0.out; have := zs8.out; have := zc8.out; have := zs9.out; have := zc10.out; have := zc11.out; have := zs12.out; have := zc12.out; have := zs13.out; have := zc13.out; have := zs14.out; have := zc14.out; omega)
  replace hcw0_1 := cell_kept hcw0_1 hk (fun h3_ => by have h4_ : W5.heap.size ≤ w4.heap.size ∧ w4.heap.size < w5.heap.size := h3_; clear h3_; have := zlaS.out; have := zs1.out; have := zc1.out; have := zs2.out; have := zc2.out; have := zs3.out; have := zc3.out; have := zs4.out; have := zc4.out; have := zlw0.out; have := zs5.out; have := zc5.out; have := zlx0.out; have := zs6.out; have := zc6.out; have := zs7.out; have := zc7.out; have := zlg0.out; have := zs8.out; have := zc8.out; have := zs9.out; have := zc10.out; have := zc11.out; have := zs12.out; have := zc12.out; have := zs13.out; have := zc13.out; have := zs14.out; have := zc14.out; omega)
  replace hcx0_0 := cell_kept hcx0_0 hk (fun h3_ => by have h4_ : W5.heap.size ≤ w5.heap.size ∧ w5.heap.size < w5.heap.size := h3_; clear h3_; have := zlaS.out; have := zs1.out; have := zc1.out; have := zs2.out; have := zc2.out; have := zs3.out; have := zc3.out; have := zs4.out; have := zc4.out; have := zlw0.out; have := zs5.out; have := zc5.out; have := zlx0.out; have := zs6.out; have := zc6.out; have := zs7.out; have := zc7.out; have := zlg0.out; have := zs8.out; have := zc8.out; have := zs9.out; have := zc10.out; have := zc11.out; have := zs12.out; have := zc12.out; have := zs13.out; have := zc13.out; have := zs14.out; have := zc14.out; omega)
  replace hcx0_1 := cell_kept hcx0_1 hk (fun h3_ => by have h4_ : W5.heap.size ≤ w5.heap.size ∧ w5.heap.size < w5.heap.size := h3_; clear h3_; have := zlaS.out; have := zs1.out; have := zc1.out; have := zs2.out; have := zc2.out; have := zs3.out; have := zc3.out; have := zs4.out; have := zc4.out; have := zlw0.out; have := zs5.out; have := zc5.out; have := zlx0.out; have := zs6.out; have := zc6.out; have := zs7.out; have := zc7.out; have := zlg0.out; have := zs8.out; have := zc8.out; have := zs9.out; have := zc10.out; have := zc11.out; have := zs12.out; have := zc12.out; have := zs13.out; have := zc13.out; have := zs14.out; have := zc14.out; omega)
  replace hcg0_0 := cell_kept hcg0_0 hk (fun h3_ => by have h4_ : W5.heap.size ≤ w7.heap.size ∧ w7.heap.size < w5.heap.size := h3_; clear h3_; have := zlaS.out; have := zs1.out; have := zc1.out; have := zs2.out; have := zc2.out; have := zs3.out; have := zc3.out; have := zs4.out; have := zc4.out; have := zlw0.out; have := zs5.out; have := zc5.out; have := zlx0.out; have := zs6.out; have := zc6.out; have := zs7.out; have := zc7.out; have := zlg0.out; have := zs8.out; have := zc8.out; have := zs9.out; have := zc10.out; have := zc11.out; have := zs12.out; have := zc12.out; have := zs13.out; have := zc13.out; have := zs14.out; have := zc14.out; omega)
  replace hcg0_1 := cell_kept hcg0_1 hk (fun h3_ => by have h4_ : W5.heap.size ≤ w7.heap.size ∧ w7.heap.size < w5.heap.size := h3_; clear h3_; have := zlaS.out; have := zs1.out; have := zc1.out; have := zs2.out; have := zc2.out; have := zs3.out; have := zc3.out; have := zs4.out; have := zc4.out; have := zlw0.out; have := zs5.out; have := zc5.out; have := zlx0.out; have := zs6.out; have := zc6.out; have := zs7.out; have := zc7.out; have := zlg0.out; have := zs8.out; have := zc8.out; have := zs9.out; have := zc10.out; have := zc11.out; have := zs12.out; have := zc12.out; have := zs13.out; have := zc13.out; have := zs14.out; have := zc14.out; omega)
  replace HO2_0 := HO2_0.kept hk (fun k_ h1_ h2_ h3_ => by have := zlaS.out; have := zs1.out; have := zc1.out; have := zs2.out; have := zc2.out; have := zs3.out; have := zc3.out; have := zs4.out; have := zc4.out; have := zlw0.out; have := zs5.out; have := zc5.out; have := zlx0.out; have := zs6.out; have := zc6.out; have := zs7.out; have := zc7.out; have := zlg0.out; have := zs8.out; have := zc8.out; have := zs9.out; have := zc10.out; have := zc11.out; have := zs12.out; have := zc12.out; have := zs13.out; have := zc13.out; have := zs14.out; have := zc14.out; obtain ⟨h4_, h5_⟩ := h3_; omega)
  replace HO2_1 := HO2_1.kept hk (fun k_ h1_ h2_ h3_ => by have := zlaS.out; have := zs1.out; have := zc1.out; have := zs2.out; have := zc2.out; have := zs3.out; have := zc3.out; have := zs4.out; have := zc4.out; have := zlw0.out; have := zs5.out; have := zc5.out; have := zlx0.out; have := zs6.out; have := zc6.out; have := zs7.out; have := zc7.out; have := zlg0.out; have := zs8.out; have := zc8.out; have := zs9.out; have := zc10.out; have := zc11.out; have := zs12.out; have := zc12.out; have := zs13.out; have := zc13.out; have := zs14.out; have := zc14.out; obtain ⟨h4_, h5_⟩ := h3_; omega)
  replace HO3_0 := HO3_0.kept hk (fun k_ h1_ h2_ h3_ => by have := zlaS.out; have := zs1.out; have := zc1.out; have := zs2.out; have := zc2.out; have := zs3.out; have := zc3.out; have := zs4.out; have := zc4.out; have := zlw0.out; have := zs5.out; have := zc5.out; have := zlx0.out; have := zs6.out; have := zc6.out; have := zs7.out; have := zc7.out; have := zlg0.out; have := zs8.out; have := zc8.out; have := zs9.out; have := zc10.out; have := zc11.out; have := zs12.out; have := zc12.out; have := zs13.out; have := zc13.out; have := zs14.out; have := zc14.out; obtain ⟨h4_, h5_⟩ := h3_; omega)
  replace HO4_0 := HO4_0.kept hk (fun k_ h1_ h2_ h3_ => by have := zlaS.out; have := zs1.out; have := zc1.out; have := zs2.out; have := zc2.out; have := zs3.out; have := zc3.out; have := zs4.out; have := zc4.out; have := zlw0.out; have := zs5.out; have := zc5.out; have := zlx0.out; have := zs6.out; have := zc6.out; have := zs7.out; have := zc7.out; have := zlg0.out; have := zs8.out; have := zc8.out; have := zs9.out; have := zc10.out; have := zc11.out; have := zs12.out; have := zc12.out; have := zs13.out; have := zc13.out; have := zs14.out; have := zc14.out; obtain ⟨h4_, h5_⟩ := h3_; omega)
  replace HO4_1 := HO4_1.kept hk (fun k_ h1_ h2_ h3_ => by have := zlaS.out; have := zs1.out; have := zc1.out; have := zs2.out; have := zc2.out; have := zs3.out; have := zc3.out; have := zs4.out; have := zc4.out; have := zlw0.out; have := zs5.out; have := zc5.out; have := zlx0.out; have := zs6.out; have := zc6.out; have := zs7.out; have := zc7.out; have := zlg0.out; have := zs8.out; have := zc8.out; have := zs9.out; have := zc10.out; have := zc11.out; have := zs12.out; have := zc12.out; have := zs13.out; have := zc13.out; have := zs14.out; have := zc14.out; obtain ⟨h4_, h5_⟩ := h3_; omega)
  replace HO6_0 := HO6_0.kept hk (fun k_ h1_ h2_ h3_ => by have := zlaS.out; have := zs1.out; have := zc1.out; have := zs2.out; have := zc2.out; have := zs3.out; have := zc3.out; have := zs4.out; have := zc4.out; have := zlw0.out; have := zs5.out; have := zc5.out; have := zlx0.out; have := zs6.out; have := zc6.out; have := zs7.out; have := zc7.out; have := zlg0.out; have := zs8.out; have := zc8.out; have := zs9.out; have := zc10.out; have := zc11.out; have := zs12.out; have := zc12.out; have := zs13.out; have := zc13.out; have := zs14.out; have := zc14.out; obtain ⟨h4_, h5_⟩ := h3_; omega)
  replace HO7_0 := HO7_0.kept hk (fun k_ h1_ h2_ h3_ => by have := zlaS.out; have := zs1.out; have := zc1.out; have := zs2.out; have := zc2.out; have := zs3.out; have := zc3.out; have := zs4.out; have := zc4.out; have := zlw0.out; have := zs5.out; have := zc5.out; have := zlx0.out; have := zs6.out; have := zc6.out; have := zs7.out; have := zc7.out; have := zlg0.out; have := zs8.out; have := zc8.out; have := zs9.out; have := zc10.out; have := zc11.out; have := zs12.out; have := zc12.out; have := zs13.out; have := zc13.out; have := zs14.out; have := zc14.out; obtain ⟨h4_, h5_⟩ := h3_; omega)
  replace HO7_1 := HO7_1.kept hk (fun k_ h1_ h2_ h3_ => by have := zlaS.out; have := zs1.out; have := zc1.out; have := zs2.out; have := zc2.out; have := zs3.out; have := zc3.out; have := zs4.out; have := zc4.out; have := zlw0.out; have := zs5.out; have := zc5.out; have := zlx0.out; have := zs6.out; have := zc6.out; have := zs7.out; have := zc7.out; have := zlg0.out; have := zs8.out; have := zc8.out; have := zs9.out; have := zc10.out; have := zc11.out; have := zs12.out; have := zc12.out; have := zs13.out; have := zc13.out; have := zs14.out; have := zc14.out; obtain ⟨h4_, h5_⟩ := h3_; omega)
  replace HO10_0 := HO10_0.kept hk (fun k_ h1_ h2_ h3_ => by have := zlaS.out; have := zs1.out; have := zc1.out; have := zs2.out; have := zc2.out; have := zs3.out; have := zc3.out; have := zs4.out; have := zc4.out; have := zlw0.out; have := zs5.out; have := zc5.out; have := zlx0.out; have := zs6.out; have := zc6.out; have := zs7.out; have := zc7.out; have := zlg0.out; have := zs8.out; have := zc8.out; have := zs9.out; have := zc10.out; have := zc11.out; have := zs12.out; have := zc12.out; have := zs13.out; have := zc13.out; have := zs14.out; have := zc14.out; obtain ⟨h4_, h5_⟩ := h3_; omega)
  replace HO10_1 := HO10_1.kept hk (fun k_ h1_ h2_ h3_ => by have := zlaS.out; have := zs1.out; have := zc1.out; have := zs2.out; have := zc2.out; have := zs3.out; have := zc3.out; have := zs4.out; have := zc4.out; have := zlw0.out; have := zs5.out; have := zc5.out; have := zlx0.out; have := zs6.out; have := zc6.out; have := zs7.out; have := zc7.out; have := zlg0.out; have := zs8.out; have := zc8.out; have := zs9.out; have := zc10.out; have := zc11.out; have := zs12.out; have := zc12.out; have := zs13.out; have := zc13.out; have := zs14.out; have := zc14.out; obtain ⟨h4_, h5_⟩ := h3_; omega)
  replace HO12_0 := HO12_0.kept hk (fun k_ h1_ h2_ h3_ => by have := zlaS.out; have := zs1.out; have := zc1.out; have := zs2.out; have := zc2.out; have := zs3.out; have := zc3.out; have := zs4.out; have := zc4.out; have := zlw0.out; have := zs5.out; have := zc5.out; have := zlx0.out; have := zs6.out; have := zc6.out; have := zs7.out; have := zc7.out; have := zlg0.out; have := zs8.out; have := zc8.out; have := zs9.out; have := zc10.out; have := zc11.out; have := zs12.out; have := zc12.out; have := zs13.out; have := zc13.out; have := zs14.out; have := zc14.out; obtain ⟨h4_, h5_⟩ := h3_; omega)
  replace hlaS : w.heap.size < w14.heap.size := Nat.lt_of_lt_of_le hlaS hk.1
  replace hlw0 : w4.heap.size < w14.heap.size := Nat.lt_of_lt_of_le hlw0 hk.1
  replace hlx0 : w5.heap.size < w14.heap.size := Nat.lt_of_lt_of_le hlx0 hk.1
  replace hlg0 : w7.heap.size < w14.heap.size := Nat.lt_of_lt_of_le hlg0 hk.1
  replace HB := Aside0.mk hB
  clear hB hk
  go_wp2_with fail
  refine calls_named fun W15 hW => ?_
  have hs : Below w14.heap.size w14 W15 := by rw [hW]; repeat (first | exact Below.refl _ _ | apply below_alloc | apply below_drew1 | apply pw_below_drewN)
  clear hW
  replace hcaS_0 := pw_cell_below hs hcaS_0
  replace hcaS_1 := pw_cell_below hs hcaS_1
  replace hcw0_0 := pw_cell_below hs hcw0_0
  replace hcw0_1 := pw_cell_below hs hcw0_1
  replace hcx0_0 := pw_cell_below hs hcx0_0
  replace hcx0_1 := pw_cell_below hs hcx0_1
  replace hcg0_0 := pw_cell_below hs hcg0_0
  replace hcg0_1 := pw_cell_below hs hcg0_1
  replace HO2_0 := HO2_0.below hs
  replace HO2_1 := HO2_1.below hs
  replace HO3_0 := HO3_0.below hs
  replace HO4_0 := HO4_0.below hs
  replace HO4_1 := HO4_1.below hs
  replace HO5_0 := HO5_0.below hs
  replace HO5_1 := HO5_1.below hs
  replace HO6_0 := HO6_0.below hs
  replace HO7_0 := HO7_0.below hs
  replace HO7_1 := HO7_1.below hs
  replace HO10_0 := HO10_0.below hs
  replace HO10_1 := HO10_1.below hs
  replace HO12_0 := HO12_0.below hs
  replace hlaS : w.heap.size < W15.heap.size := Nat.lt_of_lt_of_le hlaS hs.size
  replace hlw0 : w4.heap.size < W15.heap.size := Nat.lt_of_lt_of_le hlw0 hs.size
  replace hlx0 : w5.heap.size < W15.heap.size := Nat.lt_of_lt_of_le hlx0 hs.size
  replace hlg0 : w7.heap.size < W15.heap.size := Nat.lt_of_lt_of_le hlg0 hs.size
  replace HB := Aside0.mk (below_on HB.out HB.out.size hs)
  have zs15 := Aside0.mk hs.size
  clear hs
  obtain ⟨kk15, e_15⟩ := HMI.out t_aLost_0 (1 + ((t_aS_0.length : Nat) : Int) + ((t_aS_1.length : Nat) : Int)) (by have := HT0.out; have := HT1.out; have := HT2.out; omega) (by have := HT0.out; have := HT1.out; have := HT2.out; omega)
  replace e_15 := Aside0.mk e_15
  refine (laws_markIntS.calls kk15 (fun k => W6.heap.size ≤ k ∧ k < w6.heap.size) _ t_aLost_0 (1 + ((t_aS_0.length : Nat) : Int) + ((t_aS_1.length : Nat) : Int)) _ _ w W15 HB.out HO6_0.out e_15.out).mono ?_
  rintro e w15 ⟨rfl, hS, hB, hk⟩
  clear e_15
  replace HO6_0 := OwnR.marked rfl HO6_0 hS
  clear hS
  have zc15 := Aside0.mk hk.1
  replace hcaS_0 := cell_kept hcaS_0 hk (fun h3_ => by have h4_ : W6.heap.size ≤ w.heap.size ∧ w.heap.size < w6.heap.size := h3_; clear h3_; have := zlaS.out; have := zs1.out; have := zc1.out; have := zs2.out; have := zc2.out; have := zs3.out; have := zc3.out; have := zs4.out; have := zc4.out; have := zlw0.out; have := zs5.out; have := zc5.out; have := zlx0.out; have := zs6.out; have := zc6.out; have := zs7.out; have := zc7.out; have := zlg0.out; have := zs8.out; have := zc8.out; have := zs9.out; have := zc10.out; have := zc11.out; have := zs12.out; have := zc12.out; have := zs13.out; have := zc13.out; have := zs14.out; have := zc14.out; have := zs15.out; have := zc15.out; omega)
  replace hcaS_1 := cell_kept hcaS_1 hk (fun h3_ => by have h4_ : W6.heap.size ≤ w.heap.size ∧ w.heap.size < w6.heap.size := h3_; clear h3_; have := zlaS.out; have := zs1.out; have := zc1.out; have := zs2.out; have := zc2.out; have := zs3.out; have := zc3.out; have := zs4.out; have := zc4.out; have := zlw0.out; have := zs5.out; have := zc5.out; have := zlx0.out; have := zs6.out; have := zc6.out; have := zs7.out; have := zc7.out; have := zlg0.out; have := zs8.out; have := zc8.out; have := zs9.out; have := zc10.out; have := zc11.out; have := zs12.out; have := zc12.out; have := zs13.out; have := zc13.out; have := zs14.out; have := zc14.out; have := zs15.out; have := zc15.out; omega)
  replace hcw0_0 := cell_kept hcw0_0 hk (fun h3_ => by have h4_ : W6.heap.size ≤ w4.heap.size ∧ w4.heap.size < w6.heap.size := h3_; clear h3_; have := zlaS.out; have := zs1.out; have := zc1.out; have := zs2.out; have := zc2.out; have := zs3.out; have := zc3.out; have := zs4.out; have := zc4.out; have := zlw0.out; have := zs5.out; have := zc5.out; have := zlx0.out; have := zs6.out; have := zc6.out; have := zs7.out; have := zc7.out; have := zlg0.out; have := zs8.out; have := zc8.out; have := zs9.out; have := zc10.out; have := zc11.out; have := zs12.out; have := zc12.out; have := zs13.out; have := zc13.out; have := zs14.out; have := zc14.out; have := zs15.out; have := zc15.out; omega)
  replace hcw0_1 := cell_kept hcw0_1 hk (fun h3_ => by have h4_ : W6.heap.size ≤ w4.heap.size ∧ w4.heap.size < w6.heap.size := h3_; clear h3_; have := zlaS.out; have := zs1.out; have := zc1.out; have := zs2.out; have := zc2.out; have := zs3.out; have := zc3.out; have := zs4.out; have := zc4.out; have := zlw0.out; have := zs5.out; have := zc5.out; have := zlx0.out; have := zs6.out; have := zc6.out; have := zs7.out; have := zc7.out; have := zlg0.out; have := zs8.out; have := zc8.out; have := zs9.out; have := zc10.out; have := zc11.out; have := zs12.out; have := zc12.out; have := zs13.out; have := zc13.out; have := zs14.out; have := zc14.out; have := zs15.out; have := zc15.out; omega)
  replace hcx0_0 := cell_kept hcx0_0 hk (fun h3_ => by have h4_ : W6.heap.size ≤ w5.heap.size ∧ w5.heap.size < w6.heap.size := h3_; clear h3_; have := zlaS.out; have := zs1.out; have := zc1.out; have := zs2.out; have := zc2.out; have := zs3.out; have := zc3.out; have := zs4.out; have := zc4.out; have := zlw0.out; have := zs5.out; have := zc5.out; have := zlx0.out; have := zs6.out; have := zc6.out; have := zs7.out; have := zc7.out; have := zlg0.out; have := zs8.out; have := zc8.out; have := zs9.out; have := zc10.out; have := zc11.out; have := zs12.out; have := zc12.out; have := zs13.out; have := zc13.out; have := zs14.out; have := zc14.out; have := zs15.out; have := zc15.out; omega)
  replace hcx0_1 := cell_kept hcx0_1 hk (fun h3_ => by have h4_ : W6.heap.size ≤ w5.heap.size ∧ w5.heap.size < w6.heap.size := h3_; clear h3_; have := zlaS.out; have := zs1.out; have := zc1.out; have := zs2.out; have := zc2.out; have := zs3.out; have := zc3.out; have := zs4.out; have := zc4.out; have := zlw0.out; have := zs5.out; have := zc5.out; have := zlx0.out; have := zs6.out; have := zc6.out; have := zs7.out; have := zc7.out; have := zlg0.out; have := zs8.out; have := zc8.out; have := zs9.out; have := zc10.out; have := zc11.out; have := zs12.out; have := zc12.out; have := zs13.out; have := zc13.out; have := zs14.out; have := zc14.out; have := zs15.out; have := zc15.out; omega)
  replace hcg0_0 := cell_kept hcg0_0 hk (fun h3_ => by have h4_ : W6.heap.size ≤ w7.heap.size ∧ w7.heap.size < w6.heap.size := h3_; clear h3_; have := zlaS.out; have := zs1.out; have := zc1.out; have := zs2.out; have := zc2.out; have := zs3.out; have := zc3.out; have := zs4.out; have := zc4.out; have := zlw0.out; have := zs5.out; have := zc5.out; have := zlx0.out; have := zs6.out; have := zc6.out; have := zs7.out; have := zc7.out; have := zlg0.out; have := zs8.out; have := zc8.out; have := zs9.out; have := zc10.out; have := zc11.out; have := zs12.out; have := zc12.out; have := zs13.out; have := zc13.out; have := zs14.out; have := zc14.out; have := zs15.out; have := zc15.out; omega)
  replace hcg0_1 := cell_kept hcg0_1 hk (fun h3_ => by have h4_ : W6.heap.size ≤ w7.heap.size ∧ w7.heap.size < w6.heap.size := h3_; clear h3_; have := zlaS.out; have := zs1.out; have := zc1.out; have := zs2.out; have := zc2.out; have := zs3.out; have := zc3.out; have := zs4.out; have := zc4.out; have := zlw0.out; have := zs5.out; have := zc5.out; have := zlx0.out; have := zs6.out; have := zc6.out; have := zs7.out; have := zc7.out; have := zlg0.out; have := zs8.out; have := zc8.out; have := zs9.out; have := zc10.out; have := zc11.out; have := zs12.out; have := zc12.out; have := zs13.out; have := zc13.out; have := zs14.out; have := zc14.out; have := zs15.out; have := zc15.out; omega)
  replace HO2_0 := HO2_0.kept hk (fun k_ h1_ h2_ h3_ => by have := zlaS.out; have := zs1.out; have := zc1.out; have := zs2.out; have := zc2.out; have := zs3.out; have := zc3.out; have := zs4.out; have := zc4.out; have := zlw0.out; have := zs5.out; have := zc5.out; have := zlx0.out; have := zs6.out; have := zc6.out; have := zs7.out; have := zc7.out; have := zlg0.out; have := zs8.out; have := zc8.out; have := zs9.out; have := zc10.out; have := zc11.out; have := zs12.out; have := zc12.out; have := zs13.out; have := zc13.out; have := zs14.out; have := zc14.out; have := zs15.out; have := zc15.out; obtain ⟨h4_, h5_⟩ := h3_; omega)
  replace HO2_1 := HO2_1.kept hk (fun k_ h1_ h2_ h3_ => by have := zlaS.out; have := zs1.out; have := zc1.out; have := zs2.out; have := zc2.out; have := zs3.out; have := zc3.out; have := zs4.out; have := zc4.out; have := zlw0.out; have := zs5.out; have := zc5.out; have := zlx0.out; have := zs6.out; have := zc6.out; have := zs7.out; have := zc7.out; have := zlg0.out; have := zs8.out; have := zc8.out; have := zs9.out; have := zc10.out; have := zc11.out; have := zs12.out; have := zc12.out; have := zs13.out; have := zc13.out; have := zs14.out; have := zc14.out; have := zs15.out; have := zc15.out; obtain ⟨h4_, h5_⟩ := h3_; omega)
  replace HO3_0 := HO3_0.kept hk (fun k_ h1_ h2_ h3_ => by have := zlaS.out; have := zs1.out; have := zc1.out; have := zs2.out; have := zc2.out; have := zs3.out; have := zc3.out; have := zs4.out; have := zc4.out; have := zlw0.out; have := zs5.out; have := zc5.out; have := zlx0.out; have := zs6.out; have := zc6.out; have := zs7.out; have := zc7.out; have := zlg0.out; have := zs8.out; have := zc8.out; have := zs9.out; have := zc10.out; have := zc11.out; have := zs12.out; have := zc12.out; have := zs13.out; have := zc13.out; have := zs14.out; have := zc14.out; have := zs15.out; have := zc15.out; obtain ⟨h4_, h5_⟩ := h3_; omega)
  replace HO4_0 := HO4_0.kept hk (fun k_ h1_ h2_ h3_ => by have := zlaS.out; have := zs1.out; have := zc1.out; have := zs2.out; have := zc2.out; have := zs3.out; have := zc3.out; have := zs4.out; have := zc4.out; have := zlw0.out; have := zs5.out; have := zc5.out; have := zlx0.out; have := zs6.out; have := zc6.out; have := zs7.out; have := zc7.out; have := zlg0.out; have := zs8.out; have := zc8.out; have := zs9.out; have := zc10.out; have := zc11.out; have := zs12.out; have := zc12.out; have := zs13.out; have := zc13.out; have := zs14.out; have := zc14.out; have := zs15.out; have := zc15.out; obtain ⟨h4_, h5_⟩ := h3_; omega)
  replace HO4_1 := HO4_1.kept hk (fun k_ h1_ h2_ h3_ => by have := zlaS.out; have := zs1.out; have := zc1.out; have := zs2.out; have := zc2.out; have := zs3.out; have := zc3.out; have := zs4.out; have := zc4.out; have := zlw0.out; have := zs5.out; have := zc5.out; have := zlx0.out; have := zs6.out; have := zc6.out; have := zs7.out; have := zc7.out; have := zlg0.out; have := zs8.out; have := zc8.out; have := zs9.out; have := zc10.out; have := zc11.out; have := zs12.out; have := zc12.out; have := zs13.out; have := zc13.out; have := zs14.out; have := zc14.out; have := zs15.out; have := zc15.out; obtain ⟨h4_, h5_⟩ := h3_; omega)
  replace HO5_0 := HO5_0.kept hk (fun k_ h1_ h2_ h3_ => by have := zlaS.out; have := zs1.out; have := zc1.out; have := zs2.out; have := zc2.out; have := zs3.out; have := zc3.out; have := zs4.out; have := zc4.out; have := zlw0.out; have := zs5.out; have := zc5.out; have := zlx0.out; have := zs6.out; have := zc6.out; have := zs7.out; have := zc7.out; have := zlg0.out; have := zs8.out; have := zc8.out; have := zs9.out; have := zc10.out; have := zc11.out; have := zs12.out; have := zc12.out; have := zs13.out; have := zc13.out; have := zs14.out; have := zc14.out; have := zs15.out; have := zc15.out; obtain ⟨h4_, h5_⟩ := h3_; omega)
  replace HO5_1 := HO5_1.kept hk (fun k_ h1_ h2_ h3_ => by have := zlaS.out; have := zs1.out; have := zc1.out; have := zs2.out; have := zc2.out; have := zs3.out; have := zc3.out; have := zs4.out; have := zc4.out; have := zlw0.out; have := zs5.out; have := zc5.out; have := zlx0.out; have := zs6.out; have := zc6.out; have := zs7.out; have := zc7.out; have := zlg0.out; have := zs8.out; have := zc8.out; have := zs9.out; have := zc10.out; have := zc11.out; have := zs12.out; have := zc12.out; have := zs13.out; have := zc13.out; have := zs14.out; have := zc14.out; have := zs15.out; have := zc15.out; obtain ⟨h4_, h5_⟩ := h3_; omega)
  replace HO7_0 := HO7_0.kept hk (fun k_ h1_ h2_ h3_ => by have := zlaS.out; have := zs1.out; have := zc1.out; have := zs2.out; have := zc2.out; have := zs3.out; have := zc3.out; have := zs4.out; have := zc4.out; have := zlw0.out; have := zs5.out; have := zc5.out; have := zlx0.out; have := zs6.out; have := zc6.out; have := zs7.out; have := zc7.out; have := zlg0.out; have := zs8.out; have := zc8.out; have := zs9.out; have := zc10.out; have := zc11.out; have := zs12.out; have := zc12.out; have := zs13.out; have := zc13.out; have := zs14.out; have := zc14.out; have := zs15.out; have := zc15.out; obtain ⟨h4_, h5_⟩ := h3_; omega)
  replace HO7_1 := HO7_1.kept hk (fun k_ h1_ h2_ h3_ => by have := zlaS.out; have := zs1.out; have := zc1.out; have := zs2.out; have := zc2.out; have := zs3.out; have := zc3.out; have := zs4.out; have := zc4.out; have := zlw0.out; have := zs5.out; have := zc5.out; have := zlx0.out; have := zs6.out; have := zc6.out; have := zs7.out; have := zc7.out; have := zlg0.out; have := zs8.out; have := zc8.out; have := zs9.out; have := zc10.out; have := zc11.out; have := zs12.out; have := zc12.out; have := zs13.out; have := zc13.out; have := zs14.out; have := zc14.out; have := zs15.out; have := zc15.out; obtain ⟨h4_, h5_⟩ := h3_; omega)
  replace HO10_0 := HO10_0.kept hk (fun k_ h1_ h2_ h3_ => by have := zlaS.out; have := zs1.out; have := zc1.out; have := zs2.out; have := zc2.out; have := zs3.out; have := zc3.out; have := zs4.out; have := zc4.out; have := zlw0.out; have := zs5.out; have := zc5.out; have := zlx0.out; have := zs6.out; have := zc6.out; have := zs7.out; have := zc7.out; have := zlg0.out; have := zs8.out; have := zc8.out; have := zs9.out; have := zc10.out; have := zc11.out; have := zs12.out; have := zc12.out; have := zs13.out; have := zc13.out; have := zs14.out; have := zc14.out; have := zs15.out; have := zc15.out; obtain ⟨h4_, h5_⟩ := h3_; omega)
  replace HO10_1 := HO10_1.kept hk (fun k_ h1_ h2_ h3_ => by have := zlaS.out; have := zs1.out; have := zc1.out; have := zs2.out; have := zc2.out; have := zs3.out; have := zc3.out; have := zs4.out; have := zc4.out; have := zlw0.out; have := zs5.out; have := zc5.out; have := zlx0.out; have := zs6.out; have := zc6.out; have := zs7.out; have := zc7.out; have := zlg0.out; have := zs8.out; have := zc8.out; have := zs9.out; have := zc10.out; have := zc11.out; have := zs12.out; have := zc12.out; have := zs13.out; have := zc13.out; have := zs14.out; have := zc14.out; have := zs15.out; have := zc15.out; obtain ⟨h4_, h5_⟩ := h3_; omega)
  replace HO12_0 := HO12_0.kept hk (fun k_ h1_ h2_ h3_ => by have := zlaS.out; have := zs1.out; have := zc1.out; have := zs2.out; have := zc2.out; have := zs3.out; have := zc3.out; have := zs4.out; have := zc4.out; have := zlw0.out; have := zs5.out; have := zc5.out; have := zlx0.out; have := zs6.out; have := zc6.out; have := zs7.out; have := zc7.out; have := zlg0.out; have := zs8.out; have := zc8.out; have := zs9.out; have := zc10.out; have := zc11.out; have := zs12.out; have := zc12.out; have := zs13.out; have := zc13.out; have := zs14.out; have := zc14.out; have := zs15.out; have := zc15.out; obtain ⟨h4_, h5_⟩ := h3_; omega)
  replace hlaS : w.heap.size < w15.heap.size := Nat.lt_of_lt_of_le hlaS hk.1
  replace hlw0 : w4.heap.size < w15.heap.size := Nat.lt_of_lt_of_le hlw0 hk.1
  replace hlx0 : w5.heap.size < w15.heap.size := Nat.lt_of_lt_of_le hlx0 hk.1
  replace hlg0 : w7.heap.size < w15.heap.size := Nat.lt_of_lt_of_le hlg0 hk.1
  replace HB := Aside0.mk hB
  clear hB hk
  go_wp2_with fail
  refine calls_named fun W16 hW => ?_
  have hs : Below w15.heap.size w15 W16 := by rw [hW]; repeat (first | exact Below.refl _ _ | apply below_alloc | apply below_drew1 | apply pw_below_drewN)
  clear hW
  replace hcaS_0 := pw_cell_below hs hcaS_0
  replace hcaS_1 := pw_cell_below hs hcaS_1
  replace hcw0_0 := pw_cell_below hs hcw0_0
  replace hcw0_1 := pw_cell_below hs hcw0_1
  replace hcx0_0 := pw_cell_below hs hcx0_0
  replace hcx0_1 := pw_cell_below hs hcx0_1
  replace hcg0_0 := pw_cell_below hs hcg0_0
  replace hcg0_1 := pw_cell_below hs hcg0_1
  replace HO2_0 := HO2_0.below hs
  replace HO2_1 := HO2_1.below hs
  replace HO3_0 := HO3_0.below hs
  replace HO4_0 := HO4_0.below hs
  replace HO4_1 := HO4_1.below hs
  replace HO5_0 := HO5_0.below hs
  replace HO5_1 := HO5_1.below hs
  replace HO6_0 := HO6_0.below hs
  replace HO7_0 := HO7_0.below hs
  replace HO7_1 := HO7_1.below hs
  replace HO10_0 := HO10_0.below hs
  replace HO10_1 := HO10_1.below hs
  replace HO12_0 := HO12_0.below hs
  replace hlaS : w.heap.size < W16.heap.size := Nat.lt_of_lt_of_le hlaS hs.size
  replace hlw0 : w4.heap.size < W16.heap.size := Nat.lt_of_lt_of_le hlw0 hs.size
  replace hlx0 : w5.heap.size < W16.heap.size := Nat.lt_of_lt_of_le hlx0 hs.size
  replace hlg0 : w7.heap.size < W16.heap.size := Nat.lt_of_lt_of_le hlg0 hs.size
  replace HB := Aside0.mk (below_on HB.out HB.out.size hs)
  have zs16 := Aside0.mk hs.size
  clear hs
  obtain ⟨kk16, e_16⟩ := E8.out
  replace e_16 := Aside0.mk e_16
  refine (laws_eqStripe.calls kk16 _ _ r_0 _ _ r_1 _ _ r_0 _ _ r_1 true W16 HO7_0.C HO7_0.cap HO7_1.C HO7_1.cap HO4_0.C HO4_0.cap HO4_1.C HO4_1.cap e_16.out).mono ?_
  rintro e w16 ⟨rfl, hb⟩
  clear e_16
  have zc16 := Aside0.mk hb.size
  replace hcaS_0 := pw_cell_below hb hcaS_0
  replace hcaS_1 := pw_cell_below hb hcaS_1
  replace hcw0_0 := pw_cell_below hb hcw0_0
  replace hcw0_1 := pw_cell_below hb hcw0_1
  replace hcx0_0 := pw_cell_below hb hcx0_0
  replace hcx0_1 := pw_cell_below hb hcx0_1
  replace hcg0_0 := pw_cell_below hb hcg0_0
  replace hcg0_1 := pw_cell_below hb hcg0_1
  replace HO2_0 := HO2_0.below hb
  replace HO2_1 := HO2_1.below hb
  replace HO3_0 := HO3_0.below hb
  replace HO4_0 := HO4_0.below hb
  replace HO4_1 := HO4_1.below hb
  replace HO5_0 := HO5_0.below hb
  replace HO5_1 := HO5_1.below hb
  replace HO6_0 := HO6_0.below hb
  replace HO7_0 := HO7_0.below hb
  replace HO7_1 := HO7_1.below hb
  replace HO10_0 := HO10_0.below hb
  replace HO10_1 := HO10_1.below hb
  replace HO12_0 := HO12_0.below hb
  replace hlaS : w.heap.size < w16.heap.size := Nat.lt_of_lt_of_le hlaS hb.size
  replace hlw0 : w4.heap.size < w16.heap.size := Nat.lt_of_lt_of_le hlw0 hb.size
  replace hlx0 : w5.heap.size < w16.heap.size := Nat.lt_of_lt_of_le hlx0 hb.size
  replace hlg0 : w7.heap.size < w16.heap.size := Nat.lt_of_lt_of_le hlg0 hb.size
  replace HB := Aside0.mk (below_on HB.out HB.out.size hb)
  clear hb
  go_wp2_with fail
  refine calls_named fun W17 hW => ?_
  have hs : Below w16.heap.size w16 W17 := by rw [hW]; repeat (first | exact Below.refl _ _ | apply below_alloc | apply below_drew1 | apply pw_below_drewN)
  clear hW
  replace hcaS_0 := pw_cell_below hs hcaS_0
  replace hcaS_1 := pw_cell_below hs hcaS_1
  replace hcw0_0 := pw_cell_below hs hcw0_0
  replace hcw0_1 := pw_cell_below hs hcw0_1
  replace hcx0_0 := pw_cell_below hs hcx0_0
  replace hcx0_1 := pw_cell_below hs hcx0_1
  replace hcg0_0 := pw_cell_below hs hcg0_0
  replace hcg0_1 := pw_cell_below hs hcg0_1
  replace HO2_0 := HO2_0.below hs
  replace HO2_1 := HO2_1.below hs
  replace HO3_0 := HO3_0.below hs
  replace HO4_0 := HO4_0.below hs
  replace HO4_1 := HO4_1.below hs
  replace HO5_0 := HO5_0.below hs
  replace HO5_1 := HO5_1.below hs
  replace HO6_0 := HO6_0.below hs
  replace HO7_0 := HO7_0.below hs
  replace HO7_1 := HO7_1.below hs
  replace HO10_0 := HO10_0.below hs
  replace HO10_1 := HO10_1.below hs
  replace HO12_0 := HO12_0.below hs
  replace hlaS : w.heap.size < W17.heap.size := Nat.lt_of_lt_of_le hlaS hs.size
  replace hlw0 : w4.heap.size < W17.heap.size := Nat.lt_of_lt_of_le hlw0 hs.size
  replace hlx0 : w5.heap.size < W17.heap.size := Nat.lt_of_lt_of_le hlx0 hs.size
  replace hlg0 : w7.heap.size < W17.heap.size := Nat.lt_of_lt_of_le hlg0 hs.size
  replace HB := Aside0.mk (below_on HB.out HB.out.size hs)
  have zs17 := Aside0.mk hs.size
  clear hs
  obtain ⟨kk17, e_17⟩ := HMT2.out r_0 r_1 1 (by have := HT0.out; have := HT1.out; have := HT2.out; have := HT3.out; have := HT4.out; omega) (by have := HT0.out; have := HT1.out; have := HT2.out; have := HT3.out; have := HT4.out; omega)
  replace e_17 := Aside0.mk e_17
  refine (laws_markStripe.calls kk17 (fun k => some k = (.slice A7_0 r_0.length c7_0 : Value).ownBlock) _ r_0 (fun k => some k = (.slice A7_1 r_1.length c7_1 : Value).ownBlock) _ r_1 1 _ _ _ w W17 HB.out (HO7_0.tight rfl) (fun k_ h1_ h2_ => HD7_0.out k_ h1_ h2_) (HO7_1.tight rfl) (fun k_ h1_ h2_ => HD7_0.out k_ h2_ h1_) e_17.out).mono ?_
  rintro e w17 ⟨rfl, hS, hS2, hB, hk⟩
  clear e_17
  replace hk := kept_mono (P' := fun k => W7.heap.size ≤ k ∧ k < w7.heap.size) hk (fun k_ h1_ => h1_.elim (fun h2_ => HO7_0.inside h2_) (fun h2_ => HO7_1.inside h2_))
  replace HO7_0 := OwnR.marked2 rfl HO7_0 hS
  replace HO7_1 := OwnR.marked2 rfl HO7_1 hS2
  clear hS hS2
  have zc17 := Aside0.mk hk.1
  replace hcaS_0 := cell_kept hcaS_0 hk (fun h3_ => by have h4_ : W7.heap.size ≤ w.heap.size ∧ w.heap.size < w7.heap.size := h3_; clear h3_; have := zlaS.out; have := zs1.out; have := zc1.out; have := zs2.out; have := zc2.out; have := zs3.out; have := zc3.out; have := zs4.out; have := zc4.out; have := zlw0.out; have := zs5.out; have := zc5.out; have := zlx0.out; have := zs6.out; have := zc6.out; have := zs7.out; have := zc7.out; have := zlg0.out; have := zs8.out; have := zc8.out; have := zs9.out; have := zc10.out; have := zc11.out; have := zs12.out; have := zc12.out; have := zs13.out; have := zc13.out; have := zs14.out; have := zc14.out; have := zs15.out; have := zc15.out; have := zs16.out; have := zc16.out; have := zs17.out; have := zc17.out; omega)
  replace hcaS_1 := cell_kept hcaS_1 hk (fun h3_ => by have h4_ : W7.heap.size ≤ w.heap.size ∧ w.heap.size < w7.heap.size := h3_; clear h3_; have := zlaS.out; have := zs1.out; have := zc1.out; have := zs2.out; have := zc2.out; have := zs3.out; have := zc3.out; have := zs4.out; have := zc4.out; have := zlw0.out; have := zs5.out; have := zc5.out; have := zlx0.out; have := zs6.out; have := zc6.out; have := zs7.out; have := zc7.out; have := zlg0.out; have := zs8.out; have := zc8.out; have := zs9.out; have := zc10.out; have := zc11.out; have := zs12.out; have := zc12.out; have := zs13.out; have := zc13.out; have := zs14.out; have := zc14.out; have := zs15.out; have := zc15.out; have := zs16.out; have := zc16.out; have := zs17.out; have := zc17.out; omega)
  replace hcw0_0 := cell_kept hcw0_0 hk (fun h3_ => by have h4_ : W7.heap.size ≤ w4.heap.size ∧ w4.heap.size < w7.heap.size := h3_; clear h3_; have := zlaS.out; have := zs1.out; have := zc1.out; have := zs2.out; have := zc2.out; have := zs3.out; have := zc3.out; have := zs4.out; have := zc4.out; have := zlw0.out; have := zs5.out; have := zc5.out; have := zlx0.out; have := zs6.out; have := zc6.out; have := zs7.out; have := zc7.out; have := zlg0.out; have := zs8.out; have := zc8.out; have := zs9.out; have := zc10.out; have := zc11.out; have := zs12.out; have := zc12.out; have := zs13.out; have := zc13.out; have := zs14.out; have := zc14.out; have := zs15.out; have := zc15.out; have := zs16.out; have := zc16.out; have := zs17.out; have := zc17.out; omega)
  replace hcw0_1 := cell_kept hcw0_1 hk (fun h3_ => by have h4_ : W7.heap.size ≤ w4.heap.size ∧ w4.heap.size < w7.heap.size := h3_; clear h3_; have := zlaS.out; have := zs1.out; have := zc1.out; have := zs2.out; have := zc2.out; have := zs3.out; have := zc3.out; have := zs4.out; have := zc4.out; have := zlw0.out; have := zs5.out; have := zc5.out; have := zlx0.out; have := zs6.out; have := zc6.out; have := zs7.out; have := zc7.out; have := zlg0.out; have := zs8.out; have := zc8.out; have := zs9.out; have := zc10.out; have := zc11.out; have := zs12.out; have := zc12.out; have := zs13.out; have := zc13.out; have := zs14.out; have := zc14.out; have := zs15.out; have := zc15.out; have := zs16.out; have := zc16.out; have := zs17.out; have := zc17.out; omega)
  replace hcx0_0 := cell_kept hcx0_0 hk (fun h3_ => by have h4_ : W7.heap.size ≤ w5.heap.size ∧ w5.heap.size < w7.heap.size := h3_; clear h3_; have := zlaS.out; have := zs1.out; have := zc1.out; have := zs2.out; have := zc2.out; have := zs3.out; have := zc3.out; have := zs4.out; have := zc4.out; have := zlw0.out; have := zs5.out; have := zc5.out; have := zlx0.out; have := zs6.out; have := zc6.out; have := zs7.out; have := zc7.out; have := zlg0.out; have := zs8.out; have := zc8.out; have := zs9.out; have := zc10.out; have := zc11.out; have := zs12.out; have := zc12.out; have := zs13.out; have := zc13.out; have := zs14.out; have := zc14.out; have := zs15.out; have := zc15.out; have := zs16.out; have := zc16.out; have := zs17.out; have := zc17.out; omega)
  replace hcx0_1 := cell_kept hcx0_1 hk (fun h3_ => by have h4_ : W7.heap.size ≤ w5.heap.size ∧ w5.heap.size < w7.heap.size := h3_; clear h3_; have := zlaS.out; have := zs1.out; have := zc1.out; have := zs2.out; have := zc2.out; have := zs3.out; have := zc3.out; have := zs4.out; have := zc4.out; have := zlw0.out; have := zs5.out; have := zc5.out; have := zlx0.out; have := zs6.out; have := zc6.out; have := zs7.out; have := zc7.out; have := zlg0.out; have := zs8.out; have := zc8.out; have := zs9.out; have := zc10.out; have := zc11.out; have := zs12.out; have := zc12.out; have := zs13.out; have := zc13.out; have := zs14.out; have := zc14.out; have := zs15.out; have := zc15.out; have := zs16.out; have := zc16.out; have := zs17.out; have := zc17.out; omega)
  replace hcg0_0 := cell_kept hcg0_0 hk (fun h3_ => by have h4_ : W7.heap.size ≤ w7.heap.size ∧ w7.heap.size < w7.heap.size := h3_; clear h3_; have := zlaS.out; have := zs1.out; have := zc1.out; have := zs2.out; have := zc2.out; have := zs3.out; have := zc3.out; have := zs4.out; have := zc4.out; have := zlw0.out; have := zs5.out; have := zc5.out; have := zlx0.out; have := zs6.out; have := zc6.out; have := zs7.out; have := zc7.out; have := zlg0.out; have := zs8.out; have := zc8.out; have := zs9.out; have := zc10.out; have := zc11.out; have := zs12.out; have := zc12.out; have := zs13.out; have := zc13.out; have := zs14.out; have := zc14.out; have := zs15.out; have := zc15.out; have := zs16.out; have := zc16.out; have := zs17.out; have := zc17.out; omega)
  replace hcg0_1 := cell_kept hcg0_1 hk (fun h3_ => by have h4_ : W7.heap.size ≤ w7.heap.size ∧ w7.heap.size < w7.heap.size := h3_; clear h3_; have := zlaS.out; have := zs1.out; have := zc1.out; have := zs2.out; have := zc2.out; have := zs3.out; have := zc3.out; have := zs4.out; have := zc4.out; have := zlw0.out; have := zs5.out; have := zc5.out; have := zlx0.out; have := zs6.out; have := zc6.out; have := zs7.out; have := zc7.out; have := zlg0.out; have := zs8.out; have := zc8.out; have := zs9.out; have := zc10.out; have := zc11.out; have := zs12.out; have := zc12.out; have := zs13.out; have := zc13.out; have := zs14.out; have := zc14.out; have := zs15.out; have := zc15.out; have := zs16.out; have := zc16.out; have := zs17.out; have := zc17.out; omega)
  replace HO2_0 := HO2_0.kept hk (fun k_ h1_ h2_ h3_ => by have := zlaS.out; have := zs1.out; have := zc1.out; have := zs2.out; have := zc2.out; have := zs3.out; have := zc3.out; have := zs4.out; have := zc4.out; have := zlw0.out; have := zs5.out; have := zc5.out; have := zlx0.out; have := zs6.out; have := zc6.out; have := zs7.out; have := zc7.out; have := zlg0.out; have := zs8.out; have := zc8.out; have := zs9.out; have := zc10.out; have := zc11.out; have := zs12.out; have := zc12.out; have := zs13.out; have := zc13.out; have := zs14.out; have := zc14.out; have := zs15.out; have := zc15.out; have := zs16.out; have := zc16.out; have := zs17.out; have := zc17.out; obtain ⟨h4_, h5_⟩ := h3_; omega)
  replace HO2_1 := HO2_1.kept hk (fun k_ h1_ h2_ h3_ => by have := zlaS.out; have := zs1.out; have := zc1.out; have := zs2.out; have := zc2.out; have := zs3.out; have := zc3.out; have := zs4.out; have := zc4.out; have := zlw0.out; have := zs5.out; have := zc5.out; have := zlx0.out; have := zs6.out; have := zc6.out; have := zs7.out; have := zc7.out; have := zlg0.out; have := zs8.out; have := zc8.out; have := zs9.out; have := zc10.out; have := zc11.out; have := zs12.out; have := zc12.out; have := zs13.out; have := zc13.out; have := zs14.out; have := zc14.out; have := zs15.out; have := zc15.out; have := zs16.out; have := zc16.out; have := zs17.out; have := zc17.out; obtain ⟨h4_, h5_⟩ := h3_; omega)
  replace HO3_0 := HO3_0.kept hk (fun k_ h1_ h2_ h3_ => by have := zlaS.out; have := zs1.out; have := zc1.out; have := zs2.out; have := zc2.out; have := zs3.out; have := zc3.out; have := zs4.out; have := zc4.out; have := zlw0.out; have := zs5.out; have := zc5.out; have := zlx0.out; have := zs6.out; have := zc6.out; have := zs7.out; have := zc7.out; have := zlg0.out; have := zs8.out; have := zc8.out; have := zs9.out; have := zc10.out; have := zc11.out; have := zs12.out; have := zc12.out; have := zs13.out; have := zc13.out; have := zs14.out; have := zc14.out; have := zs15.out; have := zc15.out; have := zs16.out; have := zc16.out; have := zs17.out; have := zc17.out; obtain ⟨h4_, h5_⟩ := h3_; omega)
  replace HO4_0 := HO4_0.kept hk (fun k_ h1_ h2_ h3_ => by have := zlaS.out; have := zs1.out; have := zc1.out; have := zs2.out; have := zc2.out; have := zs3.out; have := zc3.out; have := zs4.out; have := zc4.out; have := zlw0.out; have := zs5.out; have := zc5.out; have := zlx0.out; have := zs6.out; have := zc6.out; have := zs7.out; have := zc7.out; have := zlg0.out; have := zs8.out; have := zc8.out; have := zs9.out; have := zc10.out; have := zc11.out; have := zs12.out; have := zc12.out; have := zs13.out; have := zc13.out; have := zs14.out; have := zc14.out; have := zs15.out; have := zc15.out; have := zs16.out; have := zc16.out; have := zs17.out; have := zc17.out; obtain ⟨h4_, h5_⟩ := h3_; omega)
  replace HO4_1 := HO4_1.kept hk (fun k_ h1_ h2_ h3_ => by have := zlaS.out; have := zs1.out; have := zc1.out; have := zs2.out; have := zc2.out; have := zs3.out; have := zc3.out; have := zs4.out; have := zc4.out; have := zlw0.out; have := zs5.out; have := zc5.out; have := zlx0.out; have := zs6.out; have := zc6.out; have := zs7.out; have := zc7.out; have := zlg0.out; have := zs8.out; have := zc8.out; have := zs9.out; have := zc10.out; have := zc11.out; have := zs12.out; have := zc12.out; have := zs13.out; have := zc13.out; have := zs14.out; have := zc14.out; have := zs15.out; have := zc15.out; have := zs16.out; have := zc16.out; have := zs17.out; have := zc17.out; obtain ⟨h4_, h5_⟩ := h3_; omega)
  replace HO5_0 := HO5_0.kept hk (fun k_ h1_ h2_ h3_ => by have := zlaS.out; have := zs1.out; have := zc1.out; have := zs2.out; have := zc2.out; have := zs3.out; have := zc3.out; have := zs4.out; have := zc4.out; have := zlw0.out; have := zs5.out; have := zc5.out; have := zlx0.out; have := zs6.out; have := zc6.out; have := zs7.out; have := zc7.out; have := zlg0.out; have := zs8.out; have := zc8.out; have := zs9.out; have := zc10.out; have := zc11.out; have := zs12.out; have := zc12.out; have := zs13.out; have := zc13.out; have := zs14.out; have := zc14.out; have := zs15.out; have := zc15.out; have := zs16.out; have := zc16.out; have := zs17.out; have := zc17.out; obtain ⟨h4_, h5_⟩ := h3_; omega)
  replace HO5_1 := HO5_1.kept hk (fun k_ h1_ h2_ h3_ => by have := zlaS.out; have := zs1.out; have := zc1.out; have := zs2.out; have := zc2.out; have := zs3.out; have := zc3.out; have := zs4.out; have := zc4.out; have := zlw0.out; have := zs5.out; have := zc5.out; have := zlx0.out; have := zs6.out; have := zc6.out; have := zs7.out; have := zc7.out; have := zlg0.out; have := zs8.out; have := zc8.out; have := zs9.out; have := zc10.out; have := zc11.out; have := zs12.out; have := zc12.out; have := zs13.out; have := zc13.out; have := zs14.out; have := zc14.out; have := zs15.out; have := zc15.out; have := zs16.out; have := zc16.out; have := zs17.out; have := zc17.out; obtain ⟨h4_, h5_⟩ := h3_; omega)
  replace HO6_0 := HO6_0.kept hk (fun k_ h1_ h2_ h3_ => by have := zlaS.out; have := zs1.out; have := zc1.out; have := zs2.out; have := zc2.out; have := zs3.out; have := zc3.out; have := zs4.out; have := zc4.out; have := zlw0.out; have := zs5.out; have := zc5.out; have := zlx0.out; have := zs6.out; have := zc6.out; have := zs7.out; have := zc7.out; have := zlg0.out; have := zs8.out; have := zc8.out; have := zs9.out; have := zc10.out; have := zc11.out; have := zs12.out; have := zc12.out; have := zs13.out; have := zc13.out; have := zs14.out; have := zc14.out; have := zs15.out; have := zc15.out; have := zs16.out; have := zc16.out; have := zs17.out; have := zc17.out; obtain ⟨h4_, h5_⟩ := h3_; omega)
  replace HO10_0 := HO10_0.kept hk (fun k_ h1_ h2_ h3_ => by have := zlaS.out; have := zs1.out; have := zc1.out; have := zs2.out; have := zc2.out; have := zs3.out; have := zc3.out; have := zs4.out; have := zc4.out; have := zlw0.out; have := zs5.out; have := zc5.out; have := zlx0.out; have := zs6.out; have := zc6.out; have := zs7.out; have := zc7.out; have := zlg0.out; have := zs8.out; have := zc8.out; have := zs9.out; have := zc10.out; have := zc11.out; have := zs12.out; have := zc12.out; have := zs13.out; have := zc13.out; have := zs14.out; have := zc14.out; have := zs15.out; have := zc15.out; have := zs16.out; have := zc16.out; have := zs17.out; have := zc17.out; obtain ⟨h4_, h5_⟩ := h3_; omega)
  replace HO10_1 := HO10_1.kept hk (fun k_ h1_ h2_ h3_ => by have := zlaS.out; have := zs1.out; have := zc1.out; have := zs2.out; have := zc2.out; have := zs3.out; have := zc3.out; have := zs4.out; have := zc4.out; have := zlw0.out; have := zs5.out; have := zc5.out; have := zlx0.out; have := zs6.out; have := zc6.out; have := zs7.out; have := zc7.out; have := zlg0.out; have := zs8.out; have := zc8.out; have := zs9.out; have := zc10.out; have := zc11.out; have := zs12.out; have := zc12.out; have := zs13.out; have := zc13.out; have := zs14.out; have := zc14.out; have := zs15.out; have := zc15.out; have := zs16.out; have := zc16.out; have := zs17.out; have := zc17.out; obtain ⟨h4_, h5_⟩ := h3_; omega)
  replace HO12_0 := HO12_0.kept hk (fun k_ h1_ h2_ h3_ => by have := zlaS.out; have := zs1.out; have := zc1.out; have := zs2.out; have := zc2.out; have := zs3.out; have := zc3.out; have := zs4.out; have := zc4.out; have := zlw0.out; have := zs5.out; have := zc5.out; have := zlx0.out; have := zs6.out; have := zc6.out; have := zs7.out; have := zc7.out; have := zlg0.out; have := zs8.out; have := zc8.out; have := zs9.out; have := zc10.out; have := zc11.out; have := zs12.out; have := zc12.out; have := zs13.out; have := zc13.out; have := zs14.out; have := zc14.out; have := zs15.out; have := zc15.out; have := zs16.out; have := zc16.out; have := zs17.out; have := zc17.out; obtain ⟨h4_, h5_⟩ := h3_; omega)
  replace hlaS : w.heap.size < w17.heap.size := Nat.lt_of_lt_of_le hlaS hk.1
  replace hlw0 : w4.heap.size < w17.heap.size := Nat.lt_of_lt_of_le hlw0 hk.1
  replace hlx0 : w5.heap.size < w17.heap.size := Nat.lt_of_lt_of_le hlx0 hk.1
  replace hlg0 : w7.heap.size < w17.heap.size := Nat.lt_of_lt_of_le hlg0 hk.1
  replace HB := Aside0.mk hB
  clear hB hk
  go_wp2_with fail
  refine calls_named fun W18 hW => ?_
  have hs : Below w17.heap.size w17 W18 := by rw [hW]; repeat (first | exact Below.refl _ _ | apply below_alloc | apply below_drew1 | apply pw_below_drewN)
  clear hW
  replace hcaS_0 := pw_cell_below hs hcaS_0
  replace hcaS_1 := pw_cell_below hs hcaS_1
  replace hcw0_0 := pw_cell_below hs hcw0_0
  replace hcw0_1 := pw_cell_below hs hcw0_1
  replace hcx0_0 := pw_cell_below hs hcx0_0
  replace hcx0_1 := pw_cell_below hs hcx0_1
  replace hcg0_0 := pw_cell_below hs hcg0_0
  replace hcg0_1 := pw_cell_below hs hcg0_1
  replace HO2_0 := HO2_0.below hs
  replace HO2_1 := HO2_1.below hs
  replace HO3_0 := HO3_0.below hs
  replace HO4_0 := HO4_0.below hs
  replace HO4_1 := HO4_1.below hs
  replace HO5_0 := HO5_0.below hs
  replace HO5_1 := HO5_1.below hs
  replace HO6_0 := HO6_0.below hs
  replace HO7_0 := HO7_0.below hs
  replace HO7_1 := HO7_1.below hs
  replace HO10_0 := HO10_0.below hs
  replace HO10_1 := HO10_1.below hs
  replace HO12_0 := HO12_0.below hs
  replace hlaS : w.heap.size < W18.heap.size := Nat.lt_of_lt_of_le hlaS hs.size
  replace hlw0 : w4.heap.size < W18.heap.size := Nat.lt_of_lt_of_le hlw0 hs.size
  replace hlx0 : w5.heap.size < W18.heap.size := Nat.lt_of_lt_of_le hlx0 hs.size
  replace hlg0 : w7.heap.size < W18.heap.size := Nat.lt_of_lt_of_le hlg0 hs.size
  replace HB := Aside0.mk (below_on HB.out HB.out.size hs)
  have zs18 := Aside0.mk hs.size
  clear hs
  obtain ⟨kk18, e_18⟩ := E11.out
  replace e_18 := Aside0.mk e_18
  refine calls_of_args (args' := #[.agg #[.slice A7_0 (markTS 1 r_0.length).length c7_0, .slice A7_1 (markTS (1 + ((r_0.length : Nat) : Int)) r_1.length).length c7_1], .int .i64 1]) (by simp [markSS_length, markB_length, markI_length, markTS_length]) ?_
  refine (laws_heldStripe.calls kk18 _ _ (markTS 1 r_0.length) _ _ (markTS (1 + ((r_0.length : Nat) : Int)) r_1.length) 1 (1 + ((r_0.length : Nat) : Int) + ((r_1.length : Nat) : Int)) W18 HO7_0.C HO7_0.cap HO7_1.C HO7_1.cap e_18.out).mono ?_
  rintro e w18 ⟨rfl, hb⟩
  clear e_18
  have zc18 := Aside0.mk hb.size
  replace hcaS_0 := pw_cell_below hb hcaS_0
  replace hcaS_1 := pw_cell_below hb hcaS_1
  replace hcw0_0 := pw_cell_below hb hcw0_0
  replace hcw0_1 := pw_cell_below hb hcw0_1
  replace hcx0_0 := pw_cell_below hb hcx0_0
  replace hcx0_1 := pw_cell_below hb hcx0_1
  replace hcg0_0 := pw_cell_below hb hcg0_0
  replace hcg0_1 := pw_cell_below hb hcg0_1
  replace HO2_0 := HO2_0.below hb
  replace HO2_1 := HO2_1.below hb
  replace HO3_0 := HO3_0.below hb
  replace HO4_0 := HO4_0.below hb
  replace HO4_1 := HO4_1.below hb
  replace HO5_0 := HO5_0.below hb
  replace HO5_1 := HO5_1.below hb
  replace HO6_0 := HO6_0.below hb
  replace HO7_0 := HO7_0.below hb
  replace HO7_1 := HO7_1.below hb
  replace HO10_0 := HO10_0.below hb
  replace HO10_1 := HO10_1.below hb
  replace HO12_0 := HO12_0.below hb
  replace hlaS : w.heap.size < w18.heap.size := Nat.lt_of_lt_of_le hlaS hb.size
  replace hlw0 : w4.heap.size < w18.heap.size := Nat.lt_of_lt_of_le hlw0 hb.size
  replace hlx0 : w5.heap.size < w18.heap.size := Nat.lt_of_lt_of_le hlx0 hb.size
  replace hlg0 : w7.heap.size < w18.heap.size := Nat.lt_of_lt_of_le hlg0 hb.size
  replace HB := Aside0.mk (below_on HB.out HB.out.size hb)
  clear hb
  go_wp2_with fail
  refine calls_named fun W19 hW => ?_
  have hs : Below w18.heap.size w18 W19 := by rw [hW]; repeat (first | exact Below.refl _ _ | apply below_alloc | apply below_drew1 | apply pw_below_drewN)
  clear hW
  replace hcaS_0 := pw_cell_below hs hcaS_0
  replace hcaS_1 := pw_cell_below hs hcaS_1
  replace hcw0_0 := pw_cell_below hs hcw0_0
  replace hcw0_1 := pw_cell_below hs hcw0_1
  replace hcx0_0 := pw_cell_below hs hcx0_0
  replace hcx0_1 := pw_cell_below hs hcx0_1
  replace hcg0_0 := pw_cell_below hs hcg0_0
  replace hcg0_1 := pw_cell_below hs hcg0_1
  replace HO2_0 := HO2_0.below hs
  replace HO2_1 := HO2_1.below hs
  replace HO3_0 := HO3_0.below hs
  replace HO4_0 := HO4_0.below hs
  replace HO4_1 := HO4_1.below hs
  replace HO5_0 := HO5_0.below hs
  replace HO5_1 := HO5_1.below hs
  replace HO6_0 := HO6_0.below hs
  replace HO7_0 := HO7_0.below hs
  replace HO7_1 := HO7_1.below hs
  replace HO10_0 := HO10_0.below hs
  replace HO10_1 := HO10_1.below hs
  replace HO12_0 := HO12_0.below hs
  replace hlaS : w.heap.size < W19.heap.size := Nat.lt_of_lt_of_le hlaS hs.size
  replace hlw0 : w4.heap.size < W19.heap.size := Nat.lt_of_lt_of_le hlw0 hs.size
  replace hlx0 : w5.heap.size < W19.heap.size := Nat.lt_of_lt_of_le hlx0 hs.size
  replace hlg0 : w7.heap.size < W19.heap.size := Nat.lt_of_lt_of_le hlg0 hs.size
  replace HB := Aside0.mk (below_on HB.out HB.out.size hs)
  have zs19 := Aside0.mk hs.size
  clear hs
  obtain ⟨kk19, e_19⟩ := E2.out
  replace e_19 := Aside0.mk e_19
  refine (laws_toStripe.calls kk19 _ _ l0_0 _ _ l0_1 t_aS_0 t_aS_1 W19 (Kd.C_below HR0_0.out HB.out) HC0_0.out (Kd.C_below HR0_1.out HB.out) HC0_1.out e_19.out).mono ?_
  rintro e w19 ⟨v19_0, v19_1, rfl, h19_0, h19_1, hb⟩
  clear e_19
  have HO19_0 := OwnR.new (b := w.heap.size) h19_0 HB.out.size
  have HO19_1 := OwnR.new (b := w.heap.size) h19_1 HB.out.size
  have HD19_0 : Aside0 (∀ k_, some k_ = (v19_0 : Value).ownBlock → ¬ some k_ = (v19_1 : Value).ownBlock) := ⟨fun k_ h_ => by have q_ := h19_0.1 k_ h_.symm; first | exact q_ | exact q_.1⟩
  clear h19_0
  clear h19_1
  have zc19 := Aside0.mk hb.size
  replace hcaS_0 := pw_cell_below hb hcaS_0
  replace hcaS_1 := pw_cell_below hb hcaS_1
  replace hcw0_0 := pw_cell_below hb hcw0_0
  replace hcw0_1 := pw_cell_below hb hcw0_1
  replace hcx0_0 := pw_cell_below hb hcx0_0
  replace hcx0_1 := pw_cell_below hb hcx0_1
  replace hcg0_0 := pw_cell_below hb hcg0_0
  replace hcg0_1 := pw_cell_below hb hcg0_1
  replace HO2_0 := HO2_0.below hb
  replace HO2_1 := HO2_1.below hb
  replace HO3_0 := HO3_0.below hb
  replace HO4_0 := HO4_0.below hb
  replace HO4_1 := HO4_1.below hb
  replace HO5_0 := HO5_0.below hb
  replace HO5_1 := HO5_1.below hb
  replace HO6_0 := HO6_0.below hb
  replace HO7_0 := HO7_0.below hb
  replace HO7_1 := HO7_1.below hb
  replace HO10_0 := HO10_0.below hb
  replace HO10_1 := HO10_1.below hb
  replace HO12_0 := HO12_0.below hb
  replace hlaS : w.heap.size < w19.heap.size := Nat.lt_of_lt_of_le hlaS hb.size
  replace hlw0 : w4.heap.size < w19.heap.size := Nat.lt_of_lt_of_le hlw0 hb.size
  replace hlx0 : w5.heap.size < w19.heap.size := Nat.lt_of_lt_of_le hlx0 hb.size
  replace hlg0 : w7.heap.size < w19.heap.size := Nat.lt_of_lt_of_le hlg0 hb.size
  replace HB := Aside0.mk (below_on HB.out HB.out.size hb)
  clear hb
  obtain ⟨A19_0, c19_0, rfl⟩ := HO19_0.slice
  obtain ⟨A19_1, c19_1, rfl⟩ := HO19_1.slice
  go_wp2_with fail
  refine calls_named fun W20 hW => ?_
  have hs : Below w19.heap.size w19 W20 := by rw [hW]; repeat (first | exact Below.refl _ _ | apply below_alloc | apply below_drew1 | apply pw_below_drewN)
  clear hW
  replace hcaS_0 := pw_cell_below hs hcaS_0
  replace hcaS_1 := pw_cell_below hs hcaS_1
  replace hcw0_0 := pw_cell_below hs hcw0_0
  replace hcw0_1 := pw_cell_below hs hcw0_1
  replace hcx0_0 := pw_cell_below hs hcx0_0
  replace hcx0_1 := pw_cell_below hs hcx0_1
  replace hcg0_0 := pw_cell_below hs hcg0_0
  replace hcg0_1 := pw_cell_below hs hcg0_1
  replace HO2_0 := HO2_0.below hs
  replace HO2_1 := HO2_1.below hs
  replace HO3_0 := HO3_0.below hs
  replace HO4_0 := HO4_0.below hs
  replace HO4_1 := HO4_1.below hs
  replace HO5_0 := HO5_0.below hs
  replace HO5_1 := HO5_1.below hs
  replace HO6_0 := HO6_0.below hs
  replace HO7_0 := HO7_0.below hs
  replace HO7_1 := HO7_1.below hs
  replace HO10_0 := HO10_0.below hs
  replace HO10_1 := HO10_1.below hs
  replace HO12_0 := HO12_0.below hs
  replace HO19_0 := HO19_0.below hs
  replace HO19_1 := HO19_1.below hs
  replace hlaS : w.heap.size < W20.heap.size := Nat.lt_of_lt_of_le hlaS hs.size
  replace hlw0 : w4.heap.size < W20.heap.size := Nat.lt_of_lt_of_le hlw0 hs.size
  replace hlx0 : w5.heap.size < W20.heap.size := Nat.lt_of_lt_of_le hlx0 hs.size
  replace hlg0 : w7.heap.size < W20.heap.size := Nat.lt_of_lt_of_le hlg0 hs.size
  replace HB := Aside0.mk (below_on HB.out HB.out.size hs)
  have zs20 := Aside0.mk hs.size
  clear hs
  obtain ⟨kk20, e_20⟩ := E4.out
  replace e_20 := Aside0.mk e_20
  refine (laws_toIntS.calls kk20 _ _ l1 t_aLost_0 W20 (Kd.C_below HR1.out HB.out) HC1.out e_20.out).mono ?_
  rintro e w20 ⟨v20_0, rfl, h20_0, hb⟩
  clear e_20
  have HO20_0 := OwnR.new (b := w.heap.size) h20_0 HB.out.size
  clear h20_0
  have zc20 := Aside0.mk hb.size
  replace hcaS_0 := pw_cell_below hb hcaS_0
  replace hcaS_1 := pw_cell_below hb hcaS_1
  replace hcw0_0 := pw_cell_below hb hcw0_0
  replace hcw0_1 := pw_cell_below hb hcw0_1
  replace hcx0_0 := pw_cell_below hb hcx0_0
  replace hcx0_1 := pw_cell_below hb hcx0_1
  replace hcg0_0 := pw_cell_below hb hcg0_0
  replace hcg0_1 := pw_cell_below hb hcg0_1
  replace HO2_0 := HO2_0.below hb
  replace HO2_1 := HO2_1.below hb
  replace HO3_0 := HO3_0.below hb
  replace HO4_0 := HO4_0.below hb
  replace HO4_1 := HO4_1.below hb
  replace HO5_0 := HO5_0.below hb
  replace HO5_1 := HO5_1.below hb
  replace HO6_0 := HO6_0.below hb
  replace HO7_0 := HO7_0.below hb
  replace HO7_1 := HO7_1.below hb
  replace HO10_0 := HO10_0.below hb
  replace HO10_1 := HO10_1.below hb
  replace HO12_0 := HO12_0.below hb
  replace HO19_0 := HO19_0.below hb
  replace HO19_1 := HO19_1.below hb
  replace hlaS : w.heap.size < w20.heap.size := Nat.lt_of_lt_of_le hlaS hb.size
  replace hlw0 : w4.heap.size < w20.heap.size := Nat.lt_of_lt_of_le hlw0 hb.size
  replace hlx0 : w5.heap.size < w20.heap.size := Nat.lt_of_lt_of_le hlx0 hb.size
  replace hlg0 : w7.heap.size < w20.heap.size := Nat.lt_of_lt_of_le hlg0 hb.size
  replace HB := Aside0.mk (below_on HB.out HB.out.size hb)
  clear hb
  obtain ⟨A20_0, c20_0, rfl⟩ := HO20_0.slice
  go_wp2_with fail
  refine calls_named fun W21 hW => ?_
  have hs : Below w20.heap.size w20 W21 := by rw [hW]; repeat (first | exact Below.refl _ _ | apply below_alloc | apply below_drew1 | apply pw_below_drewN)
  clear hW
  replace hcaS_0 := pw_cell_below hs hcaS_0
  replace hcaS_1 := pw_cell_below hs hcaS_1
  replace hcw0_0 := pw_cell_below hs hcw0_0
  replace hcw0_1 := pw_cell_below hs hcw0_1
  replace hcx0_0 := pw_cell_below hs hcx0_0
  replace hcx0_1 := pw_cell_below hs hcx0_1
  replace hcg0_0 := pw_cell_below hs hcg0_0
  replace hcg0_1 := pw_cell_below hs hcg0_1
  replace HO2_0 := HO2_0.below hs
  replace HO2_1 := HO2_1.below hs
  replace HO3_0 := HO3_0.below hs
  replace HO4_0 := HO4_0.below hs
  replace HO4_1 := HO4_1.below hs
  replace HO5_0 := HO5_0.below hs
  replace HO5_1 := HO5_1.below hs
  replace HO6_0 := HO6_0.below hs
  replace HO7_0 := HO7_0.below hs
  replace HO7_1 := HO7_1.below hs
  replace HO10_0 := HO10_0.below hs
  replace HO10_1 := HO10_1.below hs
  replace HO12_0 := HO12_0.below hs
  replace HO19_0 := HO19_0.below hs
  replace HO19_1 := HO19_1.below hs
  replace HO20_0 := HO20_0.below hs
  replace hlaS : w.heap.size < W21.heap.size := Nat.lt_of_lt_of_le hlaS hs.size
  replace hlw0 : w4.heap.size < W21.heap.size := Nat.lt_of_lt_of_le hlw0 hs.size
  replace hlx0 : w5.heap.size < W21.heap.size := Nat.lt_of_lt_of_le hlx0 hs.size
  replace hlg0 : w7.heap.size < W21.heap.size := Nat.lt_of_lt_of_le hlg0 hs.size
  replace HB := Aside0.mk (below_on HB.out HB.out.size hs)
  have zs21 := Aside0.mk hs.size
  clear hs
  obtain ⟨kk21, e_21⟩ := E7.out
  replace e_21 := Aside0.mk e_21
  refine (impl_MendStripe.calls kk21 _ _ t_aS_0 _ _ t_aS_1 _ _ t_aLost_0 r_0 r_1 r_2 W21 HO19_0.C HO19_0.cap HO19_1.C HO19_1.cap HO20_0.C HO20_0.cap e_21.out).mono ?_
  rintro e w21 ⟨v21_0, v21_1, rfl, h21_0, h21_1, hb⟩
  clear e_21
  have HO21_0 := OwnR.new (b := w.heap.size) h21_0 HB.out.size
  have HO21_1 := OwnR.new (b := w.heap.size) h21_1 HB.out.size
  have HD21_0 : Aside0 (∀ k_, some k_ = (v21_0 : Value).ownBlock → ¬ some k_ = (v21_1 : Value).ownBlock) := ⟨fun k_ h_ => by have q_ := h21_0.1 k_ h_.symm; first | exact q_ | exact q_.1⟩
  clear h21_0
  clear h21_1
  have zc21 := Aside0.mk hb.size
  replace hcaS_0 := pw_cell_below hb hcaS_0
  replace hcaS_1 := pw_cell_below hb hcaS_1
  replace hcw0_0 := pw_cell_below hb hcw0_0
  replace hcw0_1 := pw_cell_below hb hcw0_1
  replace hcx0_0 := pw_cell_below hb hcx0_0
  replace hcx0_1 := pw_cell_below hb hcx0_1
  replace hcg0_0 := pw_cell_below hb hcg0_0
  replace hcg0_1 := pw_cell_below hb hcg0_1
  replace HO2_0 := HO2_0.below hb
  replace HO2_1 := HO2_1.below hb
  replace HO3_0 := HO3_0.below hb
  replace HO4_0 := HO4_0.below hb
  replace HO4_1 := HO4_1.below hb
  replace HO5_0 := HO5_0.below hb
  replace HO5_1 := HO5_1.below hb
  replace HO6_0 := HO6_0.below hb
  replace HO7_0 := HO7_0.below hb
  replace HO7_1 := HO7_1.below hb
  replace HO10_0 := HO10_0.below hb
  replace HO10_1 := HO10_1.below hb
  replace HO12_0 := HO12_0.below hb
  replace HO19_0 := HO19_0.below hb
  replace HO19_1 := HO19_1.below hb
  replace HO20_0 := HO20_0.below hb
  replace hlaS : w.heap.size < w21.heap.size := Nat.lt_of_lt_of_le hlaS hb.size
  replace hlw0 : w4.heap.size < w21.heap.size := Nat.lt_of_lt_of_le hlw0 hb.size
  replace hlx0 : w5.heap.size < w21.heap.size := Nat.lt_of_lt_of_le hlx0 hb.size
  replace hlg0 : w7.heap.size < w21.heap.size := Nat.lt_of_lt_of_le hlg0 hb.size
  replace HB := Aside0.mk (below_on HB.out HB.out.size hb)
  clear hb
  obtain ⟨A21_0, c21_0, rfl⟩ := HO21_0.slice
  obtain ⟨A21_1, c21_1, rfl⟩ := HO21_1.slice
  go_wp2_with fail
  refine calls_named fun W22 hW => ?_
  have hs : Below w21.heap.size w21 W22 := by rw [hW]; repeat (first | exact Below.refl _ _ | apply below_alloc | apply below_drew1 | apply pw_below_drewN)
  have hch0_0 : W22.cell? ⟨w21.heap.size, 0, none⟩ = some (.slice A21_0 r_0.length c21_0) := by rw [hW]; go_simp
  have hch0_1 : W22.cell? ⟨w21.heap.size, 1, none⟩ = some (.slice A21_1 r_1.length c21_1) := by rw [hW]; go_simp
  have hlh0 : w21.heap.size < W22.heap.size := by rw [hW]; simp <;> omega
  have zlh0 := Aside0.mk hlh0
  clear hW
  replace hcaS_0 := pw_cell_below hs hcaS_0
  replace hcaS_1 := pw_cell_below hs hcaS_1
  replace hcw0_0 := pw_cell_below hs hcw0_0
  replace hcw0_1 := pw_cell_below hs hcw0_1
  replace hcx0_0 := pw_cell_below hs hcx0_0
  replace hcx0_1 := pw_cell_below hs hcx0_1
  replace hcg0_0 := pw_cell_below hs hcg0_0
  replace hcg0_1 := pw_cell_below hs hcg0_1
  replace HO2_0 := HO2_0.below hs
  replace HO2_1 := HO2_1.below hs
  replace HO3_0 := HO3_0.below hs
  replace HO4_0 := HO4_0.below hs
  replace HO4_1 := HO4_1.below hs
  replace HO5_0 := HO5_0.below hs
  replace HO5_1 := HO5_1.below hs
  replace HO6_0 := HO6_0.below hs
  replace HO7_0 := HO7_0.below hs
  replace HO7_1 := HO7_1.below hs
  replace HO10_0 := HO10_0.below hs
  replace HO10_1 := HO10_1.below hs
  replace HO12_0 := HO12_0.below hs
  replace HO19_0 := HO19_0.below hs
  replace HO19_1 := HO19_1.below hs
  replace HO20_0 := HO20_0.below hs
  replace HO21_0 := HO21_0.below hs
  replace HO21_1 := HO21_1.below hs
  replace hlaS : w.heap.size < W22.heap.size := Nat.lt_of_lt_of_le hlaS hs.size
  replace hlw0 : w4.heap.size < W22.heap.size := Nat.lt_of_lt_of_le hlw0 hs.size
  replace hlx0 : w5.heap.size < W22.heap.size := Nat.lt_of_lt_of_le hlx0 hs.size
  replace hlg0 : w7.heap.size < W22.heap.size := Nat.lt_of_lt_of_le hlg0 hs.size
  replace HB := Aside0.mk (below_on HB.out HB.out.size hs)
  have zs22 := Aside0.mk hs.size
  clear hs
  obtain ⟨kk22, e_22⟩ := E8.out
  replace e_22 := Aside0.mk e_22
  refine (laws_eqStripe.calls kk22 _ _ r_0 _ _ r_1 _ _ r_0 _ _ r_1 true W22 HO21_0.C HO21_0.cap HO21_1.C HO21_1.cap HO4_0.C HO4_0.cap HO4_1.C HO4_1.cap e_22.out).mono ?_
  rintro e w22 ⟨rfl, hb⟩
  clear e_22
  have zc22 := Aside0.mk hb.size
  replace hcaS_0 := pw_cell_below hb hcaS_0
  replace hcaS_1 := pw_cell_below hb hcaS_1
  replace hcw0_0 := pw_cell_below hb hcw0_0
  replace hcw0_1 := pw_cell_below hb hcw0_1
  replace hcx0_0 := pw_cell_below hb hcx0_0
  replace hcx0_1 := pw_cell_below hb hcx0_1
  replace hcg0_0 := pw_cell_below hb hcg0_0
  replace hcg0_1 := pw_cell_below hb hcg0_1
  replace hch0_0 := pw_cell_below hb hch0_0
  replace hch0_1 := pw_cell_below hb hch0_1
  replace HO2_0 := HO2_0.below hb
  replace HO2_1 := HO2_1.below hb
  replace HO3_0 := HO3_0.below hb
  replace HO4_0 := HO4_0.below hb
  replace HO4_1 := HO4_1.below hb
  replace HO5_0 := HO5_0.below hb
  replace HO5_1 := HO5_1.below hb
  replace HO6_0 := HO6_0.below hb
  replace HO7_0 := HO7_0.below hb
  replace HO7_1 := HO7_1.below hb
  replace HO10_0 := HO10_0.below hb
  replace HO10_1 := HO10_1.below hb
  replace HO12_0 := HO12_0.below hb
  replace HO19_0 := HO19_0.below hb
  replace HO19_1 := HO19_1.below hb
  replace HO20_0 := HO20_0.below hb
  replace HO21_0 := HO21_0.below hb
  replace HO21_1 := HO21_1.below hb
  replace hlaS : w.heap.size < w22.heap.size := Nat.lt_of_lt_of_le hlaS hb.size
  replace hlw0 : w4.heap.size < w22.heap.size := Nat.lt_of_lt_of_le hlw0 hb.size
  replace hlx0 : w5.heap.size < w22.heap.size := Nat.lt_of_lt_of_le hlx0 hb.size
  replace hlg0 : w7.heap.size < w22.heap.size := Nat.lt_of_lt_of_le hlg0 hb.size
  replace hlh0 : w21.heap.size < w22.heap.size := Nat.lt_of_lt_of_le hlh0 hb.size
  replace HB := Aside0.mk (below_on HB.out HB.out.size hb)
  clear hb
  go_wp2_with fail
  refine calls_named fun W23 hW => ?_
  have hs : Below w22.heap.size w22 W23 := by rw [hW]; repeat (first | exact Below.refl _ _ | apply below_alloc | apply below_drew1 | apply pw_below_drewN)
  clear hW
  replace hcaS_0 := pw_cell_below hs hcaS_0
  replace hcaS_1 := pw_cell_below hs hcaS_1
  replace hcw0_0 := pw_cell_below hs hcw0_0
  replace hcw0_1 := pw_cell_below hs hcw0_1
  replace hcx0_0 := pw_cell_below hs hcx0_0
  replace hcx0_1 := pw_cell_below hs hcx0_1
  replace hcg0_0 := pw_cell_below hs hcg0_0
  replace hcg0_1 := pw_cell_below hs hcg0_1
  replace hch0_0 := pw_cell_below hs hch0_0
  replace hch0_1 := pw_cell_below hs hch0_1
  replace HO2_0 := HO2_0.below hs
  replace HO2_1 := HO2_1.below hs
  replace HO3_0 := HO3_0.below hs
  replace HO4_0 := HO4_0.below hs
  replace HO4_1 := HO4_1.below hs
  replace HO5_0 := HO5_0.below hs
  replace HO5_1 := HO5_1.below hs
  replace HO6_0 := HO6_0.below hs
  replace HO7_0 := HO7_0.below hs
  replace HO7_1 := HO7_1.below hs
  replace HO10_0 := HO10_0.below hs
  replace HO10_1 := HO10_1.below hs
  replace HO12_0 := HO12_0.below hs
  replace HO19_0 := HO19_0.below hs
  replace HO19_1 := HO19_1.below hs
  replace HO20_0 := HO20_0.below hs
  replace HO21_0 := HO21_0.below hs
  replace HO21_1 := HO21_1.below hs
  replace hlaS : w.heap.size < W23.heap.size := Nat.lt_of_lt_of_le hlaS hs.size
  replace hlw0 : w4.heap.size < W23.heap.size := Nat.lt_of_lt_of_le hlw0 hs.size
  replace hlx0 : w5.heap.size < W23.heap.size := Nat.lt_of_lt_of_le hlx0 hs.size
  replace hlg0 : w7.heap.size < W23.heap.size := Nat.lt_of_lt_of_le hlg0 hs.size
  replace hlh0 : w21.heap.size < W23.heap.size := Nat.lt_of_lt_of_le hlh0 hs.size
  replace HB := Aside0.mk (below_on HB.out HB.out.size hs)
  have zs23 := Aside0.mk hs.size
  clear hs
  obtain ⟨kk23, e_23⟩ := E11.out
  replace e_23 := Aside0.mk e_23
  refine calls_of_args (args' := #[.agg #[.slice A7_0 (markTS 1 r_0.length).length c7_0, .slice A7_1 (markTS (1 + ((r_0.length : Nat) : Int)) r_1.length).length c7_1], .int .i64 1]) (by simp [markSS_length, markB_length, markI_length, markTS_length]) ?_
  refine (laws_heldStripe.calls kk23 _ _ (markTS 1 r_0.length) _ _ (markTS (1 + ((r_0.length : Nat) : Int)) r_1.length) 1 (1 + ((r_0.length : Nat) : Int) + ((r_1.length : Nat) : Int)) W23 HO7_0.C HO7_0.cap HO7_1.C HO7_1.cap e_23.out).mono ?_
  rintro e w23 ⟨rfl, hb⟩
  clear e_23
  have zc23 := Aside0.mk hb.size
  replace hcaS_0 := pw_cell_below hb hcaS_0
  replace hcaS_1 := pw_cell_below hb hcaS_1
  replace hcw0_0 := pw_cell_below hb hcw0_0
  replace hcw0_1 := pw_cell_below hb hcw0_1
  replace hcx0_0 := pw_cell_below hb hcx0_0
  replace hcx0_1 := pw_cell_below hb hcx0_1
  replace hcg0_0 := pw_cell_below hb hcg0_0
  replace hcg0_1 := pw_cell_below hb hcg0_1
  replace hch0_0 := pw_cell_below hb hch0_0
  replace hch0_1 := pw_cell_below hb hch0_1
  replace HO2_0 := HO2_0.below hb
  replace HO2_1 := HO2_1.below hb
  replace HO3_0 := HO3_0.below hb
  replace HO4_0 := HO4_0.below hb
  replace HO4_1 := HO4_1.below hb
  replace HO5_0 := HO5_0.below hb
  replace HO5_1 := HO5_1.below hb
  replace HO6_0 := HO6_0.below hb
  replace HO7_0 := HO7_0.below hb
  replace HO7_1 := HO7_1.below hb
  replace HO10_0 := HO10_0.below hb
  replace HO10_1 := HO10_1.below hb
  replace HO12_0 := HO12_0.below hb
  replace HO19_0 := HO19_0.below hb
  replace HO19_1 := HO19_1.below hb
  replace HO20_0 := HO20_0.below hb
  replace HO21_0 := HO21_0.below hb
  replace HO21_1 := HO21_1.below hb
  replace hlaS : w.heap.size < w23.heap.size := Nat.lt_of_lt_of_le hlaS hb.size
  replace hlw0 : w4.heap.size < w23.heap.size := Nat.lt_of_lt_of_le hlw0 hb.size
  replace hlx0 : w5.heap.size < w23.heap.size := Nat.lt_of_lt_of_le hlx0 hb.size
  replace hlg0 : w7.heap.size < w23.heap.size := Nat.lt_of_lt_of_le hlg0 hb.size
  replace hlh0 : w21.heap.size < w23.heap.size := Nat.lt_of_lt_of_le hlh0 hb.size
  replace HB := Aside0.mk (below_on HB.out HB.out.size hb)
  clear hb
  go_wp2
  go_ret
  exact ⟨rfl, by repeat (first | exact HB.out | apply below_alloc | apply below_drew1 | apply pw_below_drewN)⟩
end Go.Proofs.Ytajikfnpcobnpaa.PFnExactMendStripe
-- HALVED
