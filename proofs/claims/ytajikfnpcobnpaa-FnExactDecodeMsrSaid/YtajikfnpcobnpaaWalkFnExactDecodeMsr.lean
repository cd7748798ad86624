/- The walk through the law FnExactDecodeMsr, out of the contracts of what it calls. -/
import Derived.Test.YtajikfnpcobnpaaPFnExactDecodeMsrx
import Derived.Test.YtajikfnpcobnpaaVDecodeMsrLawKit
import Derived.Test.YtajikfnpcobnpaaVDecodeMsrTxt
namespace Go.Proofs.Ytajikfnpcobnpaa.PFnExactDecodeMsr
open Go.RowKit Go.Proofs.YtajikfnpcobnpaaW.PrintWords Go.Proofs.YtajikfnpcobnpaaW.PrintLast Go.Proofs.YtajikfnpcobnpaaW.PrintMore Go.Proofs.Ytajikfnpcobnpaa.Gf Go.Proofs.Ytajikfnpcobnpaa.Kit Go.Proofs.Ytajikfnpcobnpaa.LawKit
set_option linter.unusedVariables false
set_option linter.unusedSimpArgs false
def laws_FnExactDecodeMsr.Facts0 (a0_0 : Int) (a0_1 : Int) (l1 : List (S169)) : Prop := ∃ s_0 : Int, (∃ k, laws_szPieceS.f k l1 1048576 = some s_0) ∧ (s_0 < 0)
def laws_FnExactDecodeMsr.Facts1 (a0_0 : Int) (a0_1 : Int) (l1 : List (S169)) : Prop := ∃ s_0 : Int, ∃ t_aL_0 : List (S69), ∃ r_0 : List (Int), ∃ r_1 : Bool, (∃ k, laws_szPieceS.f k l1 1048576 = some s_0) ∧ (¬ s_0 < 0) ∧ (laws_toMsr.f a0_0 a0_1 = some (a0_0, a0_1)) ∧ (∃ k, laws_toPieceS.f k l1 = some t_aL_0) ∧ (∃ k, spec_DecodeMsr.f k a0_0 a0_1 t_aL_0 = some (r_0, r_1)) ∧ (∃ k, impl_DecodeMsr.f k a0_0 a0_1 t_aL_0 = some (r_0, r_1)) ∧ (∃ k, laws_eqByteS.f k r_0 r_0 = some true) ∧ (∃ k, laws_eqPieceS.f k t_aL_0 t_aL_0 = some true) ∧ (∃ k, laws_heldByteS.f k (markB 1 r_0.length) 1 = some (1 + ((r_0.length : Nat) : Int))) ∧ (∀ (l : List Int) (a : Int), 0 ≤ a → a + l.length < 4611686018427387904 → ∃ k, laws_markByteS.f k l a = some (a + ((l.length : Nat) : Int), markB a l.length)) ∧ (totPS t_aL_0 < 1152921504606846976 ∧ t_aL_0.length < 1152921504606846976) ∧ (r_0.length < 1152921504606846976)
def laws_FnExactDecodeMsr.Facts (a0_0 : Int) (a0_1 : Int) (l1 : List (S169)) : Prop := laws_FnExactDecodeMsr.Facts0 a0_0 a0_1 l1 ∨ laws_FnExactDecodeMsr.Facts1 a0_0 a0_1 l1
set_option maxHeartbeats 16000000 in
set_option maxRecDepth 100000 in
theorem laws_FnExactDecodeMsr.calls (a0_0 : Int) (a0_1 : Int) (A1 : Option Addr) (c1 : Nat) (l1 : List (S169)) (w : World) (hr1 : Kd.C k169 w A1 l1.length l1) (hc1 : l1.length ≤ c1) (h : laws_FnExactDecodeMsr.Facts a0_0 a0_1 l1) :
  Calls Try.prog 12 #[.agg #[.int .i64 a0_0, .int .i64 a0_1], .slice A1 l1.length c1] w fun e w' => e = .returned (.bool true) ∧ Below w.heap.size w w' := by
 have HR1 := Aside0.mk hr1
 have HC1 := Aside0.mk hc1
 clear hr1 hc1
 have HB := Aside0.mk (Below.refl w.heap.size w)
 rcases h with h | h
 ·obtain ⟨s_0, E0, G1⟩ := h
  replace E0 := Aside0.mk E0
  replace G1 := Aside0.mk G1
  go_enter Try.func12, Try.ntmps12
  go_wp2_with fail
  refine calls_named fun W1 hW => ?_
  have hs : Below w.heap.size w W1 := by rw [hW]; repeat (first | exact Below.refl _ _ | apply below_alloc | apply below_drew1 | apply pw_below_drewN)
  have hcaC_0 : W1.cell? ⟨w.heap.size, 0, none⟩ = some (.int .i64 a0_0) := by rw [hW]; go_simp
  have hcaC_1 : W1.cell? ⟨w.heap.size, 1, none⟩ = some (.int .i64 a0_1) := by rw [hW]; go_simp
  have hlaC : w.heap.size < W1.heap.size := by rw [hW]; simp <;> omega
  have zlaC := Aside0.mk hlaC
  clear hW
  replace HB := Aside0.mk (below_on HB.out HB.out.size hs)
  have zs1 := Aside0.mk hs.size
  clear hs
  obtain ⟨kk1, e_1⟩ := E0.out
  replace e_1 := Aside0.mk e_1
  refine (laws_szPieceS.calls kk1 _ _ l1 1048576 s_0 W1 (Kd.C_below HR1.out HB.out) HC1.out e_1.out).mono ?_
  rintro e w1 ⟨rfl, hb⟩
  clear e_1
  have zc1 := Aside0.mk hb.size
  replace hcaC_0 := pw_cell_below hb hcaC_0
  replace hcaC_1 := pw_cell_below hb hcaC_1
  replace hlaC : w.heap.size < w1.heap.size := Nat.lt_of_lt_of_le hlaC hb.size
  replace HB := Aside0.mk (below_on HB.out HB.out.size hb)
  clear hb
  have hg1 := decide_eq_true (show s_0 < 0 by have := G1.out; omega)
  go_wp2
  go_ret
  exact ⟨rfl, by repeat (first | exact HB.out | apply below_alloc | apply below_drew1 | apply pw_below_drewN)⟩
 ·obtain ⟨s_0, t_aL_0, r_0, r_1, E0, G1, E2, E4, E6, E7, E8, E9, E10, HMB, HT0, HT1⟩ := h
  replace E0 := Aside0.mk E0
  replace G1 := Aside0.mk G1
  replace E2 := Aside0.mk E2
  replace E4 := Aside0.mk E4
  replace E6 := Aside0.mk E6
  replace E7 := Aside0.mk E7
  replace E8 := Aside0.mk E8
  replace E9 := Aside0.mk E9
  replace E10 := Aside0.mk E10
  replace HMB := Aside0.mk HMB
  replace HT0 := Aside0.mk HT0
  replace HT1 := Aside0.mk HT1
  go_enter Try.func12, Try.ntmps12
  go_wp2_with fail
  refine calls_named fun W1 hW => ?_
  have hs : Below w.heap.size w W1 := by rw [hW]; repeat (first | exact Below.refl _ _ | apply below_alloc | apply below_drew1 | apply pw_below_drewN)
  have hcaC_0 : W1.cell? ⟨w.heap.size, 0, none⟩ = some (.int .i64 a0_0) := by rw [hW]; go_simp
  have hcaC_1 : W1.cell? ⟨w.heap.size, 1, none⟩ = some (.int .i64 a0_1) := by rw [hW]; go_simp
  have hlaC : w.heap.size < W1.heap.size := by rw [hW]; simp <;> omega
  have zlaC := Aside0.mk hlaC
  clear hW
  replace HB := Aside0.mk (below_on HB.out HB.out.size hs)
  have zs1 := Aside0.mk hs.size
  clear hs
  obtain ⟨kk1, e_1⟩ := E0.out
  replace e_1 := Aside0.mk e_1
  refine (laws_szPieceS.calls kk1 _ _ l1 1048576 s_0 W1 (Kd.C_below HR1.out HB.out) HC1.out e_1.out).mono ?_
  rintro e w1 ⟨rfl, hb⟩
  clear e_1
  have zc1 := Aside0.mk hb.size
  replace hcaC_0 := pw_cell_below hb hcaC_0
  replace hcaC_1 := pw_cell_below hb hcaC_1
  replace hlaC : w.heap.size < w1.heap.size := Nat.lt_of_lt_of_le hlaC hb.size
  replace HB := Aside0.mk (below_on HB.out HB.out.size hb)
  clear hb
  have hg1 := decide_eq_false (show ¬ (s_0 < 0) by have := G1.out; omega)
  go_wp2_with fail
  refine calls_named fun W2 hW => ?_
  have hs : Below w1.heap.size w1 W2 := by rw [hW]; repeat (first | exact Below.refl _ _ | apply below_alloc | apply below_drew1 | apply pw_below_drewN)
  clear hW
  replace hcaC_0 := pw_cell_below hs hcaC_0
  replace hcaC_1 := pw_cell_below hs hcaC_1
  replace hlaC : w.heap.size < W2.heap.size := Nat.lt_of_lt_of_le hlaC hs.size
  replace HB := Aside0.mk (below_on HB.out HB.out.size hs)
  have zs2 := Aside0.mk hs.size
  clear hs
  refine (laws_toMsr.calls a0_0 a0_1 a0_0 a0_1 W2  E2.out).mono ?_
  rintro e w2 ⟨rfl, hb⟩
  have zc2 := Aside0.mk hb.size
  replace hcaC_0 := pw_cell_below hb hcaC_0
  replace hcaC_1 := pw_cell_below hb hcaC_1
  replace hlaC : w.heap.size < w2.heap.size := Nat.lt_of_lt_of_le hlaC hb.size
  replace HB := Aside0.mk (below_on HB.out HB.out.size hb)
  clear hb
  go_wp2_with fail
  refine calls_named fun W3 hW => ?_
  have hs : Below w2.heap.size w2 W3 := by rw [hW]; repeat (first | exact Below.refl _ _ | apply below_alloc | apply below_drew1 | apply pw_below_drewN)
  clear hW
  replace hcaC_0 := pw_cell_below hs hcaC_0
  replace hcaC_1 := pw_cell_below hs hcaC_1
  replace hlaC : w.heap.size < W3.heap.size := Nat.lt_of_lt_of_le hlaC hs.size
  replace HB := Aside0.mk (below_on HB.out HB.out.size hs)
  have zs3 := Aside0.mk hs.size
  clear hs
  obtain ⟨kk3, e_3⟩ := E4.out
  replace e_3 := Aside0.mk e_3
  refine (laws_toPieceS.calls kk3 _ _ l1 t_aL_0 W3 (Kd.C_below HR1.out HB.out) HC1.out e_3.out).mono ?_
  rintro e w3 ⟨v3_0, rfl, h3_0, hb⟩
  clear e_3
  have HO3_0 := OwnS.new (b := w.heap.size) h3_0 HB.out.size
  clear h3_0
  have zc3 := Aside0.mk hb.size
  replace hcaC_0 := pw_cell_below hb hcaC_0
  replace hcaC_1 := pw_cell_below hb hcaC_1
  replace hlaC : w.heap.size < w3.heap.size := Nat.lt_of_lt_of_le hlaC hb.size
  replace HB := Aside0.mk (below_on HB.out HB.out.size hb)
  clear hb
  obtain ⟨A3_0, c3_0, rfl⟩ := HO3_0.slice
  go_wp2_with fail
  refine calls_named fun W4 hW => ?_
  have hs : Below w3.heap.size w3 W4 := by rw [hW]; repeat (first | exact Below.refl _ _ | apply below_alloc | apply below_drew1 | apply pw_below_drewN)
  clear hW
  replace hcaC_0 := pw_cell_below hs hcaC_0
  replace hcaC_1 := pw_cell_below hs hcaC_1
  replace HO3_0 := HO3_0.below hs
  replace hlaC : w.heap.size < W4.heap.size := Nat.lt_of_lt_of_le hlaC hs.size
  replace HB := Aside0.mk (below_on HB.out HB.out.size hs)
  have zs4 := Aside0.mk hs.size
  clear hs
  obtain ⟨kk4, e_4⟩ := E6.out
  replace e_4 := Aside0.mk e_4
  refine (spec_DecodeMsr.calls kk4 a0_0 a0_1 _ _ t_aL_0 r_0 r_1 W4 HO3_0.C HO3_0.cap e_4.out).mono ?_
  rintro e w4 ⟨v4_0, rfl, h4_0, hb⟩
  clear e_4
  have HO4_0 := OwnR.new (b := w.heap.size) h4_0 HB.out.size
  clear h4_0
  have zc4 := Aside0.mk hb.size
  replace hcaC_0 := pw_cell_below hb hcaC_0
  replace hcaC_1 := pw_cell_below hb hcaC_1
  replace HO3_0 := HO3_0.below hb
  replace hlaC : w.heap.size < w4.heap.size := Nat.lt_of_lt_of_le hlaC hb.size
  replace HB := Aside0.mk (below_on HB.out HB.out.size hb)
  clear hb
  obtain ⟨A4_0, c4_0, rfl⟩ := HO4_0.slice
  go_wp2_with fail
  refine calls_named fun W5 hW => ?_
  have hs : Below w4.heap.size w4 W5 := by rw [hW]; repeat (first | exact Below.refl _ _ | apply below_alloc | apply below_drew1 | apply pw_below_drewN)
  clear hW
  replace hcaC_0 := pw_cell_below hs hcaC_0
  replace hcaC_1 := pw_cell_below hs hcaC_1
  replace HO3_0 := HO3_0.below hs
  replace HO4_0 := HO4_0.below hs
  replace hlaC : w.heap.size < W5.heap.size := Nat.lt_of_lt_of_le hlaC hs.size
  replace HB := Aside0.mk (below_on HB.out HB.out.size hs)
  have zs5 := Aside0.mk hs.size
  clear hs
  obtain ⟨kk5, e_5⟩ := E4.out
  replace e_5 := Aside0.mk e_5
  refine (laws_toPieceS.calls kk5 _ _ l1 t_aL_0 W5 (Kd.C_below HR1.out HB.out) HC1.out e_5.out).mono ?_
  rintro e w5 ⟨v5_0, rfl, h5_0, hb⟩
  clear e_5
  have HO5_0 := OwnS.new (b := w.heap.size) h5_0 HB.out.size
  clear h5_0
  have zc5 := Aside0.mk hb.size
  replace hcaC_0 := pw_cell_below hb hcaC_0
  replace hcaC_1 := pw_cell_below hb hcaC_1
  replace HO3_0 := HO3_0.below hb
  replace HO4_0 := HO4_0.below hb
  replace hlaC : w.heap.size < w5.heap.size := Nat.lt_of_lt_of_le hlaC hb.size
  replace HB := Aside0.mk (below_on HB.out HB.out.size hb)
  clear hb
  obtain ⟨A5_0, c5_0, rfl⟩ := HO5_0.slice
  go_wp2_with fail
  refine calls_named fun W6 hW => ?_
  have hs : Below w5.heap.size w5 W6 := by rw [hW]; repeat (first | exact Below.refl _ _ | apply below_alloc | apply below_drew1 | apply pw_below_drewN)
  clear hW
  replace hcaC_0 := pw_cell_below hs hcaC_0
  replace hcaC_1 := pw_cell_below hs hcaC_1
  replace HO3_0 := HO3_0.below hs
  replace HO4_0 := HO4_0.below hs
  replace HO5_0 := HO5_0.below hs
  replace hlaC : w.heap.size < W6.heap.size := Nat.lt_of_lt_of_le hlaC hs.size
  replace HB := Aside0.mk (below_on HB.out HB.out.size hs)
  have zs6 := Aside0.mk hs.size
  clear hs
  refine (laws_toMsr.calls a0_0 a0_1 a0_0 a0_1 W6  E2.out).mono ?_
  rintro e w6 ⟨rfl, hb⟩
  have zc6 := Aside0.mk hb.size
  replace hcaC_0 := pw_cell_below hb hcaC_0
  replace hcaC_1 := pw_cell_below hb hcaC_1
  replace HO3_0 := HO3_0.below hb
  replace HO4_0 := HO4_0.below hb
  replace HO5_0 := HO5_0.below hb
  replace hlaC : w.heap.size < w6.heap.size := Nat.lt_of_lt_of_le hlaC hb.size
  replace HB := Aside0.mk (below_on HB.out HB.out.size hb)
  clear hb
  go_wp2_with fail
  refine calls_named fun W7 hW => ?_
  have hs : Below w6.heap.size w6 W7 := by rw [hW]; repeat (first | exact Below.refl _ _ | apply below_alloc | apply below_drew1 | apply pw_below_drewN)
  clear hW
  replace hcaC_0 := pw_cell_below hs hcaC_0
  replace hcaC_1 := pw_cell_below hs hcaC_1
  replace HO3_0 := HO3_0.below hs
  replace HO4_0 := HO4_0.below hs
  replace HO5_0 := HO5_0.below hs
  replace hlaC : w.heap.size < W7.heap.size := Nat.lt_of_lt_of_le hlaC hs.size
  replace HB := Aside0.mk (below_on HB.out HB.out.size hs)
  have zs7 := Aside0.mk hs.size
  clear hs
  obtain ⟨kk7, e_7⟩ := E7.out
  replace e_7 := Aside0.mk e_7
  refine (impl_DecodeMsr.calls kk7 a0_0 a0_1 _ _ t_aL_0 r_0 r_1 W7 HO5_0.C HO5_0.cap e_7.out).mono ?_
  rintro e w7 ⟨v7_0, rfl, h7_0, hb⟩
  clear e_7
  have HO7_0 := OwnR.new (b := w.heap.size) h7_0 HB.out.size
  clear h7_0
  have zc7 := Aside0.mk hb.size
  replace hcaC_0 := pw_cell_below hb hcaC_0
  replace hcaC_1 := pw_cell_below hb hcaC_1
  replace HO3_0 := HO3_0.below hb
  replace HO4_0 := HO4_0.below hb
  replace HO5_0 := HO5_0.below hb
  replace hlaC : w.heap.size < w7.heap.size := Nat.lt_of_lt_of_le hlaC hb.size
  replace HB := Aside0.mk (below_on HB.out HB.out.size hb)
  clear hb
  obtain ⟨A7_0, c7_0, rfl⟩ := HO7_0.slice
  go_wp2_with fail
  refine calls_named fun W8 hW => ?_
  have hs : Below w7.heap.size w7 W8 := by rw [hW]; repeat (first | exact Below.refl _ _ | apply below_alloc | apply below_drew1 | apply pw_below_drewN)
  clear hW
  replace hcaC_0 := pw_cell_below hs hcaC_0
  replace hcaC_1 := pw_cell_below hs hcaC_1
  replace HO3_0 := HO3_0.below hs
  replace HO4_0 := HO4_0.below hs
  replace HO5_0 := HO5_0.below hs
  replace HO7_0 := HO7_0.below hs
  replace hlaC : w.heap.size < W8.heap.size := Nat.lt_of_lt_of_le hlaC hs.size
  replace HB := Aside0.mk (below_on HB.out HB.out.size hs)
  have zs8 := Aside0.mk hs.size
  clear hs
  obtain ⟨kk8, e_8⟩ := E8.out
  replace e_8 := Aside0.mk e_8
  refine (laws_eqByteS.calls kk8 _ _ r_0 _ _ r_0 true W8 HO7_0.C HO7_0.cap HO4_0.C HO4_0.cap e_8.out).mono ?_
  rintro e w8 ⟨rfl, hd⟩
  have hb := hd.below
  clear hd
  clear e_8
  have zc8 := Aside0.mk hb.size
  replace hcaC_0 := pw_cell_below hb hcaC_0
  replace hcaC_1 := pw_cell_below hb hcaC_1
  replace HO3_0 := HO3_0.below hb
  replace HO4_0 := HO4_0.below hb
  replace HO5_0 := HO5_0.below hb
  replace HO7_0 := HO7_0.below hb
  replace hlaC : w.heap.size < w8.heap.size := Nat.lt_of_lt_of_le hlaC hb.size
  replace HB := Aside0.mk (below_on HB.out HB.out.size hb)
  clear hb
  go_wp2_with fail
  refine calls_named fun W9 hW => ?_
  have hs : Below w8.heap.size w8 W9 := by rw [hW]; repeat (first | exact Below.refl _ _ | apply below_alloc | apply below_drew1 | apply pw_below_drewN)
  clear hW
  replace hcaC_0 := pw_cell_below hs hcaC_0
  replace hcaC_1 := pw_cell_below hs hcaC_1
  replace HO3_0 := HO3_0.below hs
  replace HO4_0 := HO4_0.below hs
  replace HO5_0 := HO5_0.below hs
  replace HO7_0 := HO7_0.below hs
  replace hlaC : w.heap.size < W9.heap.size := Nat.lt_of_lt_of_le hlaC hs.size
  replace HB := Aside0.mk (below_on HB.out HB.out.size hs)
  have zs9 := Aside0.mk hs.size
  clear hs
  obtain ⟨kk9, e_9⟩ := E4.out
  replace e_9 := Aside0.mk e_9
  refine (laws_toPieceS.calls kk9 _ _ l1 t_aL_0 W9 (Kd.C_below HR1.out HB.out) HC1.out e_9.out).mono ?_
  rintro e w9 ⟨v9_0, rfl, h9_0, hb⟩
  clear e_9
  have HO9_0 := OwnS.new (b := w.heap.size) h9_0 HB.out.size
  clear h9_0
  have zc9 := Aside0.mk hb.size
  replace hcaC_0 := pw_cell_below hb hcaC_0
  replace hcaC_1 := pw_cell_below hb hcaC_1
  replace HO3_0 := HO3_0.below hb
  replace HO4_0 := HO4_0.below hb
  replace HO5_0 := HO5_0.below hb
  replace HO7_0 := HO7_0.below hb
  replace hlaC : w.heap.size < w9.heap.size := Nat.lt_of_lt_of_le hlaC hb.size
  replace HB := Aside0.mk (below_on HB.out HB.out.size hb)
  clear hb
  obtain ⟨A9_0, c9_0, rfl⟩ := HO9_0.slice
  go_wp2_with fail
  refine calls_named fun W10 hW => ?_
  have hs : Below w9.heap.size w9 W10 := by rw [hW]; repeat (first | exact Below.refl _ _ | apply below_alloc | apply below_drew1 | apply pw_below_drewN)
  clear hW
  replace hcaC_0 := pw_cell_below hs hcaC_0
  replace hcaC_1 := pw_cell_below hs hcaC_1
  replace HO3_0 := HO3_0.below hs
  replace HO4_0 := HO4_0.below hs
  replace HO5_0 := HO5_0.below hs
  replace HO7_0 := HO7_0.below hs
  replace HO9_0 := HO9_0.below hs
  replace hlaC : w.heap.size < W10.heap.size := Nat.lt_of_lt_of_le hlaC hs.size
  replace HB := Aside0.mk (below_on HB.out HB.out.size hs)
  have zs10 := Aside0.mk hs.size
  clear hs
  obtain ⟨kk10, e_10⟩ := E9.out
  replace e_10 := Aside0.mk e_10
  refine (laws_eqPieceS.calls kk10 _ _ t_aL_0 _ _ t_aL_0 true W10 HO5_0.C HO5_0.cap HO9_0.C HO9_0.cap e_10.out).mono ?_
  rintro e w10 ⟨rfl, hb⟩
  clear e_10
  have zc10 := Aside0.mk hb.size
  replace hcaC_0 := pw_cell_below hb hcaC_0
  replace hcaC_1 := pw_cell_below hb hcaC_1
  replace HO3_0 := HO3_0.below hb
  replace HO4_0 := HO4_0.below hb
  replace HO5_0 := HO5_0.below hb
  replace HO7_0 := HO7_0.below hb
  replace HO9_0 := HO9_0.below hb
  replace hlaC : w.heap.size < w10.heap.size := Nat.lt_of_lt_of_le hlaC hb.size
  replace HB := Aside0.mk (below_on HB.out HB.out.size hb)
  clear hb
  go_wp2_with fail
  refine calls_named fun W11 hW => ?_
  have hs : Below w10.heap.size w10 W11 := by rw [hW]; repeat (first | exact Below.refl _ _ | apply below_alloc | apply below_drew1 | apply pw_below_drewN)
  clear hW
  replace hcaC_0 := pw_cell_below hs hcaC_0
  replace hcaC_1 := pw_cell_below hs hcaC_1
  replace HO3_0 := HO3_0.below hs
  replace HO4_0 := HO4_0.below hs
  replace HO5_0 := HO5_0.below hs
  replace HO7_0 := HO7_0.below hs
  replace HO9_0 := HO9_0.below hs
  replace hlaC : w.heap.size < W11.heap.size := Nat.lt_of_lt_of_le hlaC hs.size
  replace HB := Aside0.mk (below_on HB.out HB.out.size hs)
  have zs11 := Aside0.mk hs.size
  clear hs
  refine (laws_markPieceS.calls (fun k => W5.heap.size ≤ k ∧ k < w5.heap.size) _ t_aL_0 1 w W11 HB.out HO5_0.out HMB.out (by have := HT0.out; omega) (by have := HT0.out; omega) (by have := HT0.out; omega)).mono ?_
  rintro e w11 ⟨rfl, hS, hB, hk⟩
  replace HO5_0 := OwnS.mk hS
  clear hS
  have zc11 := Aside0.mk hk.1
  replace hcaC_0 := cell_kept hcaC_0 hk (fun h3_ => by have h4_ : W5.heap.size ≤ w.heap.size ∧ w.heap.size < w5.heap.size := h3_; clear h3_; have := zlaC.out; have := zs1.out; have := zc1.out; have := zs2.out; have := zc2.out; have := zs3.out; have := zc3.out; have := zs4.out; have := zc4.out; have := zs5.out; have := zc5.out; have := zs6.out; have := zc6.out; have := zs7.out; have := zc7.out; have := zs8.out; have := zc8.out; have := zs9.out; have := zc9.out; have := zs10.out; have := zc10.out; have := zs11.out; have := zc11.out; omega)
  replace hcaC_1 := cell_kept hcaC_1 hk (fun h3_ => by have h4_ : W5.heap.size ≤ w.heap.size ∧ w.heap.size < w5.heap.size := h3_; clear h3_; have := zlaC.out; have := zs1.out; have := zc1.out; have := zs2.out; have := zc2.out; have := zs3.out; have := zc3.out; have := zs4.out; have := zc4.out; have := zs5.out; have := zc5.out; have := zs6.out; have := zc6.out; have := zs7.out; have := zc7.out; have := zs8.out; have := zc8.out; have := zs9.out; have := zc9.out; have := zs10.out; have := zc10.out; have := zs11.out; have := zc11.out; omega)
  replace HO3_0 := HO3_0.kept hk (fun k_ h1_ h2_ h3_ => by have := zlaC.out; have := zs1.out; have := zc1.out; have := zs2.out; have := zc2.out; have := zs3.out; have := zc3.out; have := zs4.out; have := zc4.out; have := zs5.out; have := zc5.out; have := zs6.out; have := zc6.out; have := zs7.out; have := zc7.out; have := zs8.out; have := zc8.out; have := zs9.out; have := zc9.out; have := zs10.out; have := zc10.out; have := zs11.out; have := zc11.out; obtain ⟨h4_, h5_⟩ := h3_; omega)
  replace HO4_0 := HO4_0.kept hk (fun k_ h1_ h2_ h3_ => by have := zlaC.out; have := zs1.out; have := zc1.out; have := zs2.out; have := zc2.out; have := zs3.out; have := zc3.out; have := zs4.out; have := zc4.out; have := zs5.out; have := zc5.out; have := zs6.out; have := zc6.out; have := zs7.out; have := zc7.out; have := zs8.out; have := zc8.out; have := zs9.out; have := zc9.out; have := zs10.out; have := zc10.out; have := zs11.out; have := zc11.out; obtain ⟨h4_, h5_⟩ := h3_; omega)
  replace HO7_0 := HO7_0.kept hk (fun k_ h1_ h2_ h3_ => by have := zlaC.out; have := zs1.out; have := zc1.out; have := zs2.out; have := zc2.out; have := zs3.out; have := zc3.out; have := zs4.out; have := zc4.out; have := zs5.out; have := zc5.out; have := zs6.out; have := zc6.out; have := zs7.out; have := zc7.out; have := zs8.out; have := zc8.out; have := zs9.out; have := zc9.out; have := zs10.out; have := zc10.out; have := zs11.out; have := zc11.out; obtain ⟨h4_, h5_⟩ := h3_; omega)
  replace HO9_0 := HO9_0.kept hk (fun k_ h1_ h2_ h3_ => by have := zlaC.out; have := zs1.out; have := zc1.out; have := zs2.out; have := zc2.out; have := zs3.out; have := zc3.out; have := zs4.out; have := zc4.out; have := zs5.out; have := zc5.out; have := zs6.out; have := zc6.out; have := zs7.out; have := zc7.out; have := zs8.out; have := zc8.out; have := zs9.out; have := zc9.out; have := zs10.out; have := zc10.out; have := zs11.out; have := zc11.out; obtain ⟨h4_, h5_⟩ := h3_; omega)
  replace hlaC : w.heap.size < w11.heap.size := Nat.lt_of_lt_of_le hlaC hk.1
  replace HB := Aside0.mk hB
  clear hB hk
  go_wp2_with fail
  refine calls_named fun W12 hW => ?_
  have hs : Below w11.heap.size w11 W12 := by rw [hW]; repeat (first | exact Below.refl _ _ | apply below_alloc | apply below_drew1 | apply pw_below_drewN)
  clear hW
  replace hcaC_0 := pw_cell_below hs hcaC_0
  replace hcaC_1 := pw_cell_below hs hcaC_1
  replace HO3_0 := HO3_0.below hs
  replace HO4_0 := HO4_0.below hs
  replace HO5_0 := HO5_0.below hs
  replace HO7_0 := HO7_0.below hs
  replace HO9_0 := HO9_0.below hs
  replace hlaC : w.heap.size < W12.heap.size := Nat.lt_of_lt_of_le hlaC hs.size
  replace HB := Aside0.mk (below_on HB.out HB.out.size hs)
  have zs12 := Aside0.mk hs.size
  clear hs
  obtain ⟨kk12, e_12⟩ := E8.out
  replace e_12 := Aside0.mk e_12
  refine (laws_eqByteS.calls kk12 _ _ r_0 _ _ r_0 true W12 HO7_0.C HO7_0.cap HO4_0.C HO4_0.cap e_12.out).mono ?_
  rintro e w12 ⟨rfl, hd⟩
  have hb := hd.below
  clear hd
  clear e_12
  have zc12 := Aside0.mk hb.size
  replace hcaC_0 := pw_cell_below hb hcaC_0
  replace hcaC_1 := pw_cell_below hb hcaC_1
  replace HO3_0 := HO3_0.below hb
  replace HO4_0 := HO4_0.below hb
  replace HO5_0 := HO5_0.below hb
  replace HO7_0 := HO7_0.below hb
  replace HO9_0 := HO9_0.below hb
  replace hlaC : w.heap.size < w12.heap.size := Nat.lt_of_lt_of_le hlaC hb.size
  replace HB := Aside0.mk (below_on HB.out HB.out.size hb)
  clear hb
  go_wp2_with fail
  refine calls_named fun W13 hW => ?_
  have hs : Below w12.heap.size w12 W13 := by rw [hW]; repeat (first | exact Below.refl _ _ | apply below_alloc | apply below_drew1 | apply pw_below_drewN)
  clear hW
  replace hcaC_0 := pw_cell_below hs hcaC_0
  replace hcaC_1 := pw_cell_below hs hcaC_1
  replace HO3_0 := HO3_0.below hs
  replace HO4_0 := HO4_0.below hs
  replace HO5_0 := HO5_0.below hs
  replace HO7_0 := HO7_0.below hs
  replace HO9_0 := HO9_0.below hs
  replace hlaC : w.heap.size < W13.heap.size := Nat.lt_of_lt_of_le hlaC hs.size
  replace HB := Aside0.mk (below_on HB.out HB.out.size hs)
  have zs13 := Aside0.mk hs.size
  clear hs
  obtain ⟨kk13, e_13⟩ := HMB.out r_0 1 (by have := HT0.out; have := HT1.out; omega) (by have := HT0.out; have := HT1.out; omega)
  replace e_13 := Aside0.mk e_13
  refine (laws_markByteS.calls kk13 (fun k => W7.heap.size ≤ k ∧ k < w7.heap.size) _ r_0 1 _ _ w W13 HB.out HO7_0.out e_13.out).mono ?_
  rintro e w13 ⟨rfl, hS, hB, hk⟩
  clear e_13
  replace HO7_0 := OwnR.marked rfl HO7_0 hS
  clear hS
  have zc13 := Aside0.mk hk.1
  replace hcaC_0 := cell_kept hcaC_0 hk (fun h3_ => by have h4_ : W7.heap.size ≤ w.heap.size ∧ w.heap.size < w7.heap.size := h3_; clear h3_; have := zlaC.out; have := zs1.out; have := zc1.out; have := zs2.out; have := zc2.out; have := zs3.out; have := zc3.out; have := zs4.out; have := zc4.out; have := zs5.out; have := zc5.out; have := zs6.out; have := zc6.out; have := zs7.out; have := zc7.out; have := zs8.out; have := zc8.out; have := zs9.out; have := zc9.out; have := zs10.out; have := zc10.out; have := zs11.out; have := zc11.out; have := zs12.out; have := zc12.out; have := zs13.out; have := zc13.out; omega)
  replace hcaC_1 := cell_kept hcaC_1 hk (fun h3_ => by have h4_ : W7.heap.size ≤ w.heap.size ∧ w.heap.size < w7.heap.size := h3_; clear h3_; have := zlaC.out; have := zs1.out; have := zc1.out; have := zs2.out; have := zc2.out; have := zs3.out; have := zc3.out; have := zs4.out; have := zc4.out; have := zs5.out; have := zc5.out; have := zs6.out; have := zc6.out; have := zs7.out; have := zc7.out; have := zs8.out; have := zc8.out; have := zs9.out; have := zc9.out; have := zs10.out; have := zc10.out; have := zs11.out; have := zc11.out; have := zs12.out; have := zc12.out; have := zs13.out; have := zc13.out; omega)
  replace HO3_0 := HO3_0.kept hk (fun k_ h1_ h2_ h3_ => by have := zlaC.out; have := zs1.out; have := zc1.out; have := zs2.out; have := zc2.out; have := zs3.out; have := zc3.out; have := zs4.out; have := zc4.out; have := zs5.out; have := zc5.out; have := zs6.out; have := zc6.out; have := zs7.out; have := zc7.out; have := zs8.out; have := zc8.out; have := zs9.out; have := zc9.out; have := zs10.out; have := zc10.out; have := zs11.out; have := zc11.out; have := zs12.out; have := zc12.out; have := zs13.out; have := zc13.out; obtain ⟨h4_, h5_⟩ := h3_; omega)
  replace HO4_0 := HO4_0.kept hk (fun k_ h1_ h2_ h3_ => by have := zlaC.out; have := zs1.out; have := zc1.out; have := zs2.out; have := zc2.out; have := zs3.out; have := zc3.out; have := zs4.out; have := zc4.out; have := zs5.out; have := zc5.out; have := zs6.out; have := zc6.out; have := zs7.out; have := zc7.out; have := zs8.out; have := zc8.out; have := zs9.out; have := zc9.out; have := zs10.out; have := zc10.out; have := zs11.out; have := zc11.out; have := zs12.out; have := zc12.out; have := zs13.out; have := zc13.out; obtain ⟨h4_, h5_⟩ := h3_; omega)
  replace HO5_0 := HO5_0.kept hk (fun k_ h1_ h2_ h3_ => by have := zlaC.out; have := zs1.out; have := zc1.out; have := zs2.out; have := zc2.out; have := zs3.out; have := zc3.out; have := zs4.out; have := zc4.out; have := zs5.out; have := zc5.out; have := zs6.out; have := zc6.out; have := zs7.out; have := zc7.out; have := zs8.out; have := zc8.out; have := zs9.out; have := zc9.out; have := zs10.out; have := zc10.out; have := zs11.out; have := zc11.out; have := zs12.out; have := zc12.out; have := zs13.out; have := zc13.out; obtain ⟨h4_, h5_⟩ := h3_; omega)
  replace HO9_0 := HO9_0.kept hk (fun k_ h1_ h2_ h3_ => by have := zlaC.out; have := zs1.out; have := zc1.out; have := zs2.out; have := zc2.out; have := zs3.out; have := zc3.out; have := zs4.out; have := zc4.out; have := zs5.out; have := zc5.out; have := zs6.out; have := zc6.out; have := zs7.out; have := zc7.out; have := zs8.out; have := zc8.out; have := zs9.out; have := zc9.out; have := zs10.out; have := zc10.out; have := zs11.out; have := zc11.out; have := zs12.out; have := zc12.out; have := zs13.out; have := zc13.out; obtain ⟨h4_, h5_⟩ := h3_; omega)
  replace hlaC : w.heap.size < w13.heap.size := Nat.lt_of_lt_of_le hlaC hk.1
  replace HB := Aside0.mk hB
  clear hB hk
  go_wp2_with fail
  refine calls_named fun W14 hW => ?_
  have hs : Below w13.heap.size w13 W14 := by rw [hW]; repeat (first | exact Below.refl _ _ | apply below_alloc | apply below_drew1 | apply pw_below_drewN)
  clear hW
  replace hcaC_0 := pw_cell_below hs hcaC_0
  replace hcaC_1 := pw_cell_below hs hcaC_1
  replace HO3_0 := HO3_0.below hs
  replace HO4_0 := HO4_0.below hs
  replace HO5_0 := HO5_0.below hs
  replace HO7_0 := HO7_0.below hs
  replace HO9_0 := HO9_0.below hs
  replace hlaC : w.heap.size < W14.heap.size := Nat.lt_of_lt_of_le hlaC hs.size
  replace HB := Aside0.mk (below_on HB.out HB.out.size hs)
  have zs14 := Aside0.mk hs.size
  clear hs
  obtain ⟨kk14, e_14⟩ := E10.out
  replace e_14 := Aside0.mk e_14
  refine calls_of_args (args' := #[.slice A7_0 (markB 1 r_0.length).length c7_0, .int .i64 1]) (by simp [markSS_length, markB_length, markI_length, markTS_length]) ?_
  refine (laws_heldByteS.calls kk14 _ _ (markB 1 r_0.length) 1 (1 + ((r_0.length : Nat) : Int)) W14 HO7_0.C HO7_0.cap e_14.out).mono ?_
  rintro e w14 ⟨rfl, hd⟩
  have hb := hd.below
  clear hd
  clear e_14
  have zc14 := Aside0.mk hb.size
  replace hcaC_0 := pw_cell_below hb hcaC_0
  replace hcaC_1 := pw_cell_below hb hcaC_1
  replace HO3_0 := HO3_0.below hb
  replace HO4_0 := HO4_0.below hb
  replace HO5_0 := HO5_0.below hb
  replace HO7_0 := HO7_0.below hb
  replace HO9_0 := HO9_0.below hb
  replace hlaC : w.heap.size < w14.heap.size := Nat.lt_of_lt_of_le hlaC hb.size
  replace HB := Aside0.mk (below_on HB.out HB.out.size hb)
  clear hb
  go_wp2_with fail
  refine calls_named fun W15 hW => ?_
  have hs : Below w14.heap.size w14 W15 := by rw [hW]; repeat (first | exact Below.refl _ _ | apply below_alloc | apply below_drew1 | apply pw_below_drewN)
  clear hW
  replace hcaC_0 := pw_cell_below hs hcaC_0
  replace hcaC_1 := pw_cell_below hs hcaC_1
  replace HO3_0 := HO3_0.below hs
  replace HO4_0 := HO4_0.below hs
  replace HO5_0 := HO5_0.below hs
  replace HO7_0 := HO7_0.below hs
  replace HO9_0 := HO9_0.below hs
  replace hlaC : w.heap.size < W15.heap.size := Nat.lt_of_lt_of_le hlaC hs.size
  replace HB := Aside0.mk (below_on HB.out HB.out.size hs)
  have zs15 := Aside0.mk hs.size
  clear hs
  refine (laws_toMsr.calls a0_0 a0_1 a0_0 a0_1 W15  E2.out).mono ?_
  rintro e w15 ⟨rfl, hb⟩
  have zc15 := Aside0.mk hb.size
  replace hcaC_0 := pw_cell_below hb hcaC_0
  replace hcaC_1 := pw_cell_below hb hcaC_1
  replace HO3_0 := HO3_0.below hb
  replace HO4_0 := HO4_0.below hb
  replace HO5_0 := HO5_0.below hb
  replace HO7_0 := HO7_0.below hb
  replace HO9_0 := HO9_0.below hb
  replace hlaC : w.heap.size < w15.heap.size := Nat.lt_of_lt_of_le hlaC hb.size
  replace HB := Aside0.mk (below_on HB.out HB.out.size hb)
  clear hb
  go_wp2_with fail
  refine calls_named fun W16 hW => ?_
  have hs : Below w15.heap.size w15 W16 := by rw [hW]; repeat (first | exact Below.refl _ _ | apply below_alloc | apply below_drew1 | apply pw_below_drewN)
  clear hW
  replace hcaC_0 := pw_cell_below hs hcaC_0
  replace hcaC_1 := pw_cell_below hs hcaC_1
  replace HO3_0 := HO3_0.below hs
  replace HO4_0 := HO4_0.below hs
  replace HO5_0 := HO5_0.below hs
  replace HO7_0 := HO7_0.below hs
  replace HO9_0 := HO9_0.below hs
  replace hlaC : w.heap.size < W16.heap.size := Nat.lt_of_lt_of_le hlaC hs.size
  replace HB := Aside0.mk (below_on HB.out HB.out.size hs)
  have zs16 := Aside0.mk hs.size
  clear hs
  obtain ⟨kk16, e_16⟩ := E4.out
  replace e_16 := Aside0.mk e_16
  refine (laws_toPieceS.calls kk16 _ _ l1 t_aL_0 W16 (Kd.C_below HR1.out HB.out) HC1.out e_16.out).mono ?_
  rintro e w16 ⟨v16_0, rfl, h16_0, hb⟩
  clear e_16
  have HO16_0 := OwnS.new (b := w.heap.size) h16_0 HB.out.size
  clear h16_0
  have zc16 := Aside0.mk hb.size
  replace hcaC_0 := pw_cell_below hb hcaC_0
  replace hcaC_1 := pw_cell_below hb hcaC_1
  replace HO3_0 := HO3_0.below hb
  replace HO4_0 := HO4_0.below hb
  replace HO5_0 := HO5_0.below hb
  replace HO7_0 := HO7_0.below hb
  replace HO9_0 := HO9_0.below hb
  replace hlaC : w.heap.size < w16.heap.size := Nat.lt_of_lt_of_le hlaC hb.size
  replace HB := Aside0.mk (below_on HB.out HB.out.size hb)
  clear hb
  obtain ⟨A16_0, c16_0, rfl⟩ := HO16_0.slice
  go_wp2_with fail
  refine calls_named fun W17 hW => ?_
  have hs : Below w16.heap.size w16 W17 := by rw [hW]; repeat (first | exact Below.refl _ _ | apply below_alloc | apply below_drew1 | apply pw_below_drewN)
  clear hW
  replace hcaC_0 := pw_cell_below hs hcaC_0
  replace hcaC_1 := pw_cell_below hs hcaC_1
  replace HO3_0 := HO3_0.below hs
  replace HO4_0 := HO4_0.below hs
  replace HO5_0 := HO5_0.below hs
  replace HO7_0 := HO7_0.below hs
  replace HO9_0 := HO9_0.below hs
  replace HO16_0 := HO16_0.below hs
  replace hlaC : w.heap.size < W17.heap.size := Nat.lt_of_lt_of_le hlaC hs.size
  replace HB := Aside0.mk (below_on HB.out HB.out.size hs)
  have zs17 := Aside0.mk hs.size
  clear hs
  obtain ⟨kk17, e_17⟩ := E7.out
  replace e_17 := Aside0.mk e_17
  refine (impl_DecodeMsr.calls kk17 a0_0 a0_1 _ _ t_aL_0 r_0 r_1 W17 HO16_0.C HO16_0.cap e_17.out).mono ?_
  rintro e w17 ⟨v17_0, rfl, h17_0, hb⟩
  clear e_17
  have HO17_0 := OwnR.new (b := w.heap.size) h17_0 HB.out.size
  clear h17_0
  have zc17 := Aside0.mk hb.size
  replace hcaC_0 := pw_cell_below hb hcaC_0
  replace hcaC_1 := pw_cell_below hb hcaC_1
  replace HO3_0 := HO3_0.below hb
  replace HO4_0 := HO4_0.below hb
  replace HO5_0 := HO5_0.below hb
  replace HO7_0 := HO7_0.below hb
  replace HO9_0 := HO9_0.below hb
  replace HO16_0 := HO16_0.below hb
  replace hlaC : w.heap.size < w17.heap.size := Nat.lt_of_lt_of_le hlaC hb.size
  replace HB := Aside0.mk (below_on HB.out HB.out.size hb)
  clear hb
  obtain ⟨A17_0, c17_0, rfl⟩ := HO17_0.slice
  go_wp2_with fail
  refine calls_named fun W18 hW => ?_
  have hs : Below w17.heap.size w17 W18 := by rw [hW]; repeat (first | exact Below.refl _ _ | apply below_alloc | apply below_drew1 | apply pw_below_drewN)
  clear hW
  replace hcaC_0 := pw_cell_below hs hcaC_0
  replace hcaC_1 := pw_cell_below hs hcaC_1
  replace HO3_0 := HO3_0.below hs
  replace HO4_0 := HO4_0.below hs
  replace HO5_0 := HO5_0.below hs
  replace HO7_0 := HO7_0.below hs
  replace HO9_0 := HO9_0.below hs
  replace HO16_0 := HO16_0.below hs
  replace HO17_0 := HO17_0.below hs
  replace hlaC : w.heap.size < W18.heap.size := Nat.lt_of_lt_of_le hlaC hs.size
  replace HB := Aside0.mk (below_on HB.out HB.out.size hs)
  have zs18 := Aside0.mk hs.size
  clear hs
  obtain ⟨kk18, e_18⟩ := E8.out
  replace e_18 := Aside0.mk e_18
  refine (laws_eqByteS.calls kk18 _ _ r_0 _ _ r_0 true W18 HO17_0.C HO17_0.cap HO4_0.C HO4_0.cap e_18.out).mono ?_
  rintro e w18 ⟨rfl, hd⟩
  have hb := hd.below
  clear hd
  clear e_18
  have zc18 := Aside0.mk hb.size
  replace hcaC_0 := pw_cell_below hb hcaC_0
  replace hcaC_1 := pw_cell_below hb hcaC_1
  replace HO3_0 := HO3_0.below hb
  replace HO4_0 := HO4_0.below hb
  replace HO5_0 := HO5_0.below hb
  replace HO7_0 := HO7_0.below hb
  replace HO9_0 := HO9_0.below hb
  replace HO16_0 := HO16_0.below hb
  replace HO17_0 := HO17_0.below hb
  replace hlaC : w.heap.size < w18.heap.size := Nat.lt_of_lt_of_le hlaC hb.size
  replace HB := Aside0.mk (below_on HB.out HB.out.size hb)
  clear hb
  go_wp2_with fail
  refine calls_named fun W19 hW => ?_
  have hs : Below w18.heap.size w18 W19 := by rw [hW]; repeat (first | exact Below.refl _ _ | apply below_alloc | apply below_drew1 | apply pw_below_drewN)
  clear hW
  replace hcaC_0 := pw_cell_below hs hcaC_0
  replace hcaC_1 := pw_cell_below hs hcaC_1
  replace HO3_0 := HO3_0.below hs
  replace HO4_0 := HO4_0.below hs
  replace HO5_0 := HO5_0.below hs
  replace HO7_0 := HO7_0.below hs
  replace HO9_0 := HO9_0.below hs
  replace HO16_0 := HO16_0.below hs
  replace HO17_0 := HO17_0.below hs
  replace hlaC : w.heap.size < W19.heap.size := Nat.lt_of_lt_of_le hlaC hs.size
  replace HB := Aside0.mk (below_on HB.out HB.out.size hs)
  have zs19 := Aside0.mk hs.size
  clear hs
  obtain ⟨kk19, e_19⟩ := E10.out
  replace e_19 := Aside0.mk e_19
  refine calls_of_args (args' := #[.slice A7_0 (markB 1 r_0.length).length c7_0, .int .i64 1]) (by simp [markSS_length, markB_length, markI_length, markTS_length]) ?_
  refine (laws_heldByteS.calls kk19 _ _ (markB 1 r_0.length) 1 (1 + ((r_0.length : Nat) : Int)) W19 HO7_0.C HO7_0.cap e_19.out).mono ?_
  rintro e w19 ⟨rfl, hd⟩
  have hb := hd.below
  clear hd
  clear e_19
  have zc19 := Aside0.mk hb.size
  replace hcaC_0 := pw_cell_below hb hcaC_0
  replace hcaC_1 := pw_cell_below hb hcaC_1
  replace HO3_0 := HO3_0.below hb
  replace HO4_0 := HO4_0.below hb
  replace HO5_0 := HO5_0.below hb
  replace HO7_0 := HO7_0.below hb
  replace HO9_0 := HO9_0.below hb
  replace HO16_0 := HO16_0.below hb
  replace HO17_0 := HO17_0.below hb
  replace hlaC : w.heap.size < w19.heap.size := Nat.lt_of_lt_of_le hlaC hb.size
  replace HB := Aside0.mk (below_on HB.out HB.out.size hb)
  clear hb
  go_wp2
  go_ret
  exact ⟨rfl, by repeat (first | exact HB.out | apply below_alloc | apply below_drew1 | apply pw_below_drewN)⟩
end Go.Proofs.Ytajikfnpcobnpaa.PFnExactDecodeMsr
-- HALVED
