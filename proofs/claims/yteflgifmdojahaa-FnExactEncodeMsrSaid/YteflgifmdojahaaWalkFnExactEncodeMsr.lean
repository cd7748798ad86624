/- The walk through the law FnExactEncodeMsr, out of the contracts of what it calls. -/
import Derived.Test.YteflgifmdojahaaPFnExactEncodeMsrx
import Derived.Test.YteflgifmdojahaaLawKit
import Derived.Test.YteflgifmdojahaaTxt
namespace Go.Proofs.Yteflgifmdojahaa.PFnExactEncodeMsr
open Go.RowKit Go.Proofs.YteflgifmdojahaaW.PrintWords Go.Proofs.YteflgifmdojahaaW.PrintLast Go.Proofs.YteflgifmdojahaaW.PrintMore Go.Proofs.Yteflgifmdojahaa.Gf Go.Proofs.Yteflgifmdojahaa.Kit Go.Proofs.Yteflgifmdojahaa.LawKit
set_option linter.unusedVariables false
set_option linter.unusedSimpArgs false
def laws_FnExactEncodeMsr.Facts0 (a0_0 : Int) (a0_1 : Int) (l1 : List (Int)) : Prop := (1048576 < (l1.length : Int))
def laws_FnExactEncodeMsr.Facts1 (a0_0 : Int) (a0_1 : Int) (l1 : List (Int)) : Prop := ∃ t_aData_0 : List (Int), ∃ r_0 : List (S76), ∃ r_1 : Bool, (¬ 1048576 < (l1.length : Int)) ∧ (laws_toMsr.f a0_0 a0_1 = some (a0_0, a0_1)) ∧ (∃ k, laws_toByteS.f k l1 = some t_aData_0) ∧ (∃ k, spec_EncodeMsr.f k a0_0 a0_1 t_aData_0 = some (r_0, r_1)) ∧ (∃ k, impl_EncodeMsr.f k a0_0 a0_1 t_aData_0 = some (r_0, r_1)) ∧ (∃ k, laws_eqPieceS.f k r_0 r_0 = some true) ∧ (∃ k, laws_eqByteS.f k t_aData_0 t_aData_0 = some true) ∧ (∃ k, laws_heldPieceS.f k (markPS 1 r_0) 1 = some (1 + ((totPS r_0 : Nat) : Int))) ∧ (∀ (l : List Int) (a : Int), 0 ≤ a → a + l.length < 4611686018427387904 → ∃ k, laws_markByteS.f k l a = some (a + ((l.length : Nat) : Int), markB a l.length)) ∧ (t_aData_0.length < 1152921504606846976) ∧ (totPS r_0 < 1152921504606846976 ∧ r_0.length < 1152921504606846976)
def laws_FnExactEncodeMsr.Facts (a0_0 : Int) (a0_1 : Int) (l1 : List (Int)) : Prop := laws_FnExactEncodeMsr.Facts0 a0_0 a0_1 l1 ∨ laws_FnExactEncodeMsr.Facts1 a0_0 a0_1 l1
set_option maxHeartbeats 16000000 in
set_option maxRecDepth 100000 in
theorem laws_FnExactEncodeMsr.calls (a0_0 : Int) (a0_1 : Int) (A1 : Option Addr) (c1 : Nat) (l1 : List (Int)) (w : World) (hr1 : Kd.C (Kd.int .u8) w A1 l1.length l1) (hc1 : l1.length ≤ c1) (h : laws_FnExactEncodeMsr.Facts a0_0 a0_1 l1) :
    Calls Try.prog 4 #[.agg #[.int .i64 a0_0, .int .i64 a0_1], .slice A1 l1.length c1] w fun e w' => e = .returned (.bool true) ∧ Below w.heap.size w w' := by
  have HR1 := Aside0.mk hr1
  have HC1 := Aside0.mk hc1
  clear hr1 hc1
  have HB := Aside0.mk (Below.refl w.heap.size w)
  rcases h with h | h
  · have G1 : 1048576 < (l1.length : Int) := h
    replace G1 := Aside0.mk G1
    go_enter Try.func4, Try.ntmps4
    have hg1 := decide_eq_true (show 1048576 < (l1.length : Int) by have := G1.out; omega)
    have hg1b : decide (1048576 < l1.length) = true := decide_eq_true (by have := G1.out; omega)
    go_wp2
    go_ret
    exact ⟨rfl, by repeat (first | exact HB.out | apply below_alloc | apply below_drew1 | apply pw_below_drewN)⟩
  · obtain ⟨t_aData_0, r_0, r_1, G1, E1, E3, E5, E6, E7, E8, E9, HMB, HT0, HT1⟩ := h
    replace G1 := Aside0.mk G1
    replace E1 := Aside0.mk E1
    replace E3 := Aside0.mk E3
    replace E5 := Aside0.mk E5
    replace E6 := Aside0.mk E6
    replace E7 := Aside0.mk E7
    replace E8 := Aside0.mk E8
    replace E9 := Aside0.mk E9
    replace HMB := Aside0.mk HMB
    replace HT0 := Aside0.mk HT0
    replace HT1 := Aside0.mk HT1
    go_enter Try.func4, Try.ntmps4
    have hg1 := decide_eq_false (show ¬ (1048576 < (l1.length : Int)) by have := G1.out; omega)
    have hg1b : decide (1048576 < l1.length) = false := decide_eq_false (by have := G1.out; omega)
    go_wp2_with fail
    refine calls_named fun W1 hW => ?_
    have hs : Below w.heap.size w W1 := by rw [hW]; repeat (first | exact Below.refl _ _ | apply below_alloc | apply below_drew1 | apply pw_below_drewN)
    have hcaC_0 : W1.cell? ⟨w.heap.size, 0, none⟩ = some (.int .i64 a0_0) := by rw [hW]; go_simp
    have hcaC_1 : W1.cell? ⟨w.heap.size, 1, none⟩ = some (.int .i64 a0_1) := by rw [hW]; go_simp
    have hlaC : w.heap.size < W1.heap.size := by rw [hW]; simp <;> omega
    have zlaC := Aside0.mk hlaC
    clear hW
    replace HB := Aside0.mk (below_on HB.out HB.out.size hs)
    have zs1 := Aside0.mk hs.size
    clear hs
    refine (laws_toMsr.calls a0_0 a0_1 a0_0 a0_1 W1  E1.out).mono ?_
    rintro e w1 ⟨rfl, hb⟩
    have zc1 := Aside0.mk hb.size
    replace hcaC_0 := pw_cell_below hb hcaC_0
    replace hcaC_1 := pw_cell_below hb hcaC_1
    replace hlaC : w.heap.size < w1.heap.size := Nat.lt_of_lt_of_le hlaC hb.size
    replace HB := Aside0.mk (below_on HB.out HB.out.size hb)
    clear hb
    go_wp2_with fail
    refine calls_named fun W2 hW => ?_
    have hs : Below w1.heap.size w1 W2 := by rw [hW]; repeat (first | exact Below.refl _ _ | apply below_alloc | apply below_drew1 | apply pw_below_drewN)
    clear hW
    replace hcaC_0 := pw_cell_below hs hcaC_0
    replace hcaC_1 := pw_cell_below hs hcaC_1
    replace hlaC : w.heap.size < W2.heap.size := Nat.lt_of_lt_of_le hlaC hs.size
    replace HB := Aside0.mk (below_on HB.out HB.out.size hs)
    have zs2 := Aside0.mk hs.size
    clear hs
    obtain ⟨kk2, e_2⟩ := E3.out
    replace e_2 := Aside0.mk e_2
    refine (laws_toByteS.calls kk2 _ _ l1 t_aData_0 W2 (Kd.C_below HR1.out HB.out) HC1.out e_2.out).mono ?_
    rintro e w2 ⟨v2_0, rfl, h2_0, hb⟩
    clear e_2
    have HO2_0 := OwnR.new (b := w.heap.size) h2_0 HB.out.size
    clear h2_0
    have zc2 := Aside0.mk hb.size
    replace hcaC_0 := pw_cell_below hb hcaC_0
    replace hcaC_1 := pw_cell_below hb hcaC_1
    replace hlaC : w.heap.size < w2.heap.size := Nat.lt_of_lt_of_le hlaC hb.size
    replace HB := Aside0.mk (below_on HB.out HB.out.size hb)
    clear hb
    obtain ⟨A2_0, c2_0, rfl⟩ := HO2_0.slice
    go_wp2_with fail
    refine calls_named fun W3 hW => ?_
    have hs : Below w2.heap.size w2 W3 := by rw [hW]; repeat (first | exact Below.refl _ _ | apply below_alloc | apply below_drew1 | apply pw_below_drewN)
    clear hW
    replace hcaC_0 := pw_cell_below hs hcaC_0
    replace hcaC_1 := pw_cell_below hs hcaC_1
    replace HO2_0 := HO2_0.below hs
    replace hlaC : w.heap.size < W3.heap.size := Nat.lt_of_lt_of_le hlaC hs.size
    replace HB := Aside0.mk (below_on HB.out HB.out.size hs)
    have zs3 := Aside0.mk hs.size
    clear hs
    obtain ⟨kk3, e_3⟩ := E5.out
    replace e_3 := Aside0.mk e_3
    refine (spec_EncodeMsr.calls kk3 a0_0 a0_1 _ _ t_aData_0 r_0 r_1 W3 HO2_0.C HO2_0.cap e_3.out).mono ?_
    rintro e w3 ⟨v3_0, rfl, h3_0, hb⟩
    clear e_3
    have HO3_0 := OwnS.new (b := w.heap.size) h3_0 HB.out.size
    clear h3_0
    have zc3 := Aside0.mk hb.size
    replace hcaC_0 := pw_cell_below hb hcaC_0
    replace hcaC_1 := pw_cell_below hb hcaC_1
    replace HO2_0 := HO2_0.below hb
    replace hlaC : w.heap.size < w3.heap.size := Nat.lt_of_lt_of_le hlaC hb.size
    replace HB := Aside0.mk (below_on HB.out HB.out.size hb)
    clear hb
    obtain ⟨A3_0, c3_0, rfl⟩ := HO3_0.slice
    go_wp2_with fail
    refine calls_named fun W4 hW => ?_
    have hs : Below w3.heap.size w3 W4 := by rw [hW]; repeat (first | exact Below.refl _ _ | apply below_alloc | apply below_drew1 | apply pw_below_drewN)
    clear hW
    replace hcaC_0 := pw_cell_below hs hcaC_0
    replace hcaC_1 := pw_cell_below hs hcaC_1
    replace HO2_0 := HO2_0.below hs
    replace HO3_0 := HO3_0.below hs
    replace hlaC : w.heap.size < W4.heap.size := Nat.lt_of_lt_of_le hlaC hs.size
    replace HB := Aside0.mk (below_on HB.out HB.out.size hs)
    have zs4 := Aside0.mk hs.size
    clear hs
    obtain ⟨kk4, e_4⟩ := E3.out
    replace e_4 := Aside0.mk e_4
    refine (laws_toByteS.calls kk4 _ _ l1 t_aData_0 W4 (Kd.C_below HR1.out HB.out) HC1.out e_4.out).mono ?_
    rintro e w4 ⟨v4_0, rfl, h4_0, hb⟩
    clear e_4
    have HO4_0 := OwnR.new (b := w.heap.size) h4_0 HB.out.size
    clear h4_0
    have zc4 := Aside0.mk hb.size
    replace hcaC_0 := pw_cell_below hb hcaC_0
    replace hcaC_1 := pw_cell_below hb hcaC_1
    replace HO2_0 := HO2_0.below hb
    replace HO3_0 := HO3_0.below hb
    replace hlaC : w.heap.size < w4.heap.size := Nat.lt_of_lt_of_le hlaC hb.size
    replace HB := Aside0.mk (below_on HB.out HB.out.size hb)
    clear hb
    obtain ⟨A4_0, c4_0, rfl⟩ := HO4_0.slice
    go_wp2_with fail
    refine calls_named fun W5 hW => ?_
    have hs : Below w4.heap.size w4 W5 := by rw [hW]; repeat (first | exact Below.refl _ _ | apply below_alloc | apply below_drew1 | apply pw_below_drewN)
    clear hW
    replace hcaC_0 := pw_cell_below hs hcaC_0
    replace hcaC_1 := pw_cell_below hs hcaC_1
    replace HO2_0 := HO2_0.below hs
    replace HO3_0 := HO3_0.below hs
    replace HO4_0 := HO4_0.below hs
    replace hlaC : w.heap.size < W5.heap.size := Nat.lt_of_lt_of_le hlaC hs.size
    replace HB := Aside0.mk (below_on HB.out HB.out.size hs)
    have zs5 := Aside0.mk hs.size
    clear hs
    refine (laws_toMsr.calls a0_0 a0_1 a0_0 a0_1 W5  E1.out).mono ?_
    rintro e w5 ⟨rfl, hb⟩
    have zc5 := Aside0.mk hb.size
    replace hcaC_0 := pw_cell_below hb hcaC_0
    replace hcaC_1 := pw_cell_below hb hcaC_1
    replace HO2_0 := HO2_0.below hb
    replace HO3_0 := HO3_0.below hb
    replace HO4_0 := HO4_0.below hb
    replace hlaC : w.heap.size < w5.heap.size := Nat.lt_of_lt_of_le hlaC hb.size
    replace HB := Aside0.mk (below_on HB.out HB.out.size hb)
    clear hb
    go_wp2_with fail
    refine calls_named fun W6 hW => ?_
    have hs : Below w5.heap.size w5 W6 := by rw [hW]; repeat (first | exact Below.refl _ _ | apply below_alloc | apply below_drew1 | apply pw_below_drewN)
    clear hW
    replace hcaC_0 := pw_cell_below hs hcaC_0
    replace hcaC_1 := pw_cell_below hs hcaC_1
    replace HO2_0 := HO2_0.below hs
    replace HO3_0 := HO3_0.below hs
    replace HO4_0 := HO4_0.below hs
    replace hlaC : w.heap.size < W6.heap.size := Nat.lt_of_lt_of_le hlaC hs.size
    replace HB := Aside0.mk (below_on HB.out HB.out.size hs)
    have zs6 := Aside0.mk hs.size
    clear hs
    obtain ⟨kk6, e_6⟩ := E6.out
    replace e_6 := Aside0.mk e_6
    refine (impl_EncodeMsr.calls kk6 a0_0 a0_1 _ _ t_aData_0 r_0 r_1 W6 HO4_0.C HO4_0.cap e_6.out).mono ?_
    rintro e w6 ⟨v6_0, rfl, h6_0, hb⟩
    clear e_6
    have HO6_0 := OwnS.new (b := w.heap.size) h6_0 HB.out.size
    clear h6_0
    have zc6 := Aside0.mk hb.size
    replace hcaC_0 := pw_cell_below hb hcaC_0
    replace hcaC_1 := pw_cell_below hb hcaC_1
    replace HO2_0 := HO2_0.below hb
    replace HO3_0 := HO3_0.below hb
    replace HO4_0 := HO4_0.below hb
    replace hlaC : w.heap.size < w6.heap.size := Nat.lt_of_lt_of_le hlaC hb.size
    replace HB := Aside0.mk (below_on HB.out HB.out.size hb)
    clear hb
    obtain ⟨A6_0, c6_0, rfl⟩ := HO6_0.slice
    go_wp2_with fail
    refine calls_named fun W7 hW => ?_
    have hs : Below w6.heap.size w6 W7 := by rw [hW]; repeat (first | exact Below.refl _ _ | apply below_alloc | apply below_drew1 | apply pw_below_drewN)
    clear hW
    replace hcaC_0 := pw_cell_below hs hcaC_0
    replace hcaC_1 := pw_cell_below hs hcaC_1
    replace HO2_0 := HO2_0.below hs
    replace HO3_0 := HO3_0.below hs
    replace HO4_0 := HO4_0.below hs
    replace HO6_0 := HO6_0.below hs
    replace hlaC : w.heap.size < W7.heap.size := Nat.lt_of_lt_of_le hlaC hs.size
    replace HB := Aside0.mk (below_on HB.out HB.out.size hs)
    have zs7 := Aside0.mk hs.size
    clear hs
    obtain ⟨kk7, e_7⟩ := E7.out
    replace e_7 := Aside0.mk e_7
    refine (laws_eqPieceS.calls kk7 _ _ r_0 _ _ r_0 true W7 HO6_0.C HO6_0.cap HO3_0.C HO3_0.cap e_7.out).mono ?_
    rintro e w7 ⟨rfl, hb⟩
    clear e_7
    have zc7 := Aside0.mk hb.size
    replace hcaC_0 := pw_cell_below hb hcaC_0
    replace hcaC_1 := pw_cell_below hb hcaC_1
    replace HO2_0 := HO2_0.below hb
    replace HO3_0 := HO3_0.below hb
    replace HO4_0 := HO4_0.below hb
    replace HO6_0 := HO6_0.below hb
    replace hlaC : w.heap.size < w7.heap.size := Nat.lt_of_lt_of_le hlaC hb.size
    replace HB := Aside0.mk (below_on HB.out HB.out.size hb)
    clear hb
    go_wp2_with fail
    refine calls_named fun W8 hW => ?_
    have hs : Below w7.heap.size w7 W8 := by rw [hW]; repeat (first | exact Below.refl _ _ | apply below_alloc | apply below_drew1 | apply pw_below_drewN)
    clear hW
    replace hcaC_0 := pw_cell_below hs hcaC_0
    replace hcaC_1 := pw_cell_below hs hcaC_1
    replace HO2_0 := HO2_0.below hs
    replace HO3_0 := HO3_0.below hs
    replace HO4_0 := HO4_0.below hs
    replace HO6_0 := HO6_0.below hs
    replace hlaC : w.heap.size < W8.heap.size := Nat.lt_of_lt_of_le hlaC hs.size
    replace HB := Aside0.mk (below_on HB.out HB.out.size hs)
    have zs8 := Aside0.mk hs.size
    clear hs
    obtain ⟨kk8, e_8⟩ := E3.out
    replace e_8 := Aside0.mk e_8
    refine (laws_toByteS.calls kk8 _ _ l1 t_aData_0 W8 (Kd.C_below HR1.out HB.out) HC1.out e_8.out).mono ?_
    rintro e w8 ⟨v8_0, rfl, h8_0, hb⟩
    clear e_8
    have HO8_0 := OwnR.new (b := w.heap.size) h8_0 HB.out.size
    clear h8_0
    have zc8 := Aside0.mk hb.size
    replace hcaC_0 := pw_cell_below hb hcaC_0
    replace hcaC_1 := pw_cell_below hb hcaC_1
    replace HO2_0 := HO2_0.below hb
    replace HO3_0 := HO3_0.below hb
    replace HO4_0 := HO4_0.below hb
    replace HO6_0 := HO6_0.below hb
    replace hlaC : w.heap.size < w8.heap.size := Nat.lt_of_lt_of_le hlaC hb.size
    replace HB := Aside0.mk (below_on HB.out HB.out.size hb)
    clear hb
    obtain ⟨A8_0, c8_0, rfl⟩ := HO8_0.slice
    go_wp2_with fail
    refine calls_named fun W9 hW => ?_
    have hs : Below w8.heap.size w8 W9 := by rw [hW]; repeat (first | exact Below.refl _ _ | apply below_alloc | apply below_drew1 | apply pw_below_drewN)
    clear hW
    replace hcaC_0 := pw_cell_below hs hcaC_0
    replace hcaC_1 := pw_cell_below hs hcaC_1
    replace HO2_0 := HO2_0.below hs
    replace HO3_0 := HO3_0.below hs
    replace HO4_0 := HO4_0.below hs
    replace HO6_0 := HO6_0.below hs
    replace HO8_0 := HO8_0.below hs
    replace hlaC : w.heap.size < W9.heap.size := Nat.lt_of_lt_of_le hlaC hs.size
    replace HB := Aside0.mk (below_on HB.out HB.out.size hs)
    have zs9 := Aside0.mk hs.size
    clear hs
    obtain ⟨kk9, e_9⟩ := E8.out
    replace e_9 := Aside0.mk e_9
    refine (laws_eqByteS.calls kk9 _ _ t_aData_0 _ _ t_aData_0 true W9 HO4_0.C HO4_0.cap HO8_0.C HO8_0.cap e_9.out).mono ?_
    rintro e w9 ⟨rfl, hd⟩
    have hb := hd.below
    clear hd
    clear e_9
    have zc9 := Aside0.mk hb.size
    replace hcaC_0 := pw_cell_below hb hcaC_0
    replace hcaC_1 := pw_cell_below hb hcaC_1
    replace HO2_0 := HO2_0.below hb
    replace HO3_0 := HO3_0.below hb
    replace HO4_0 := HO4_0.below hb
    replace HO6_0 := HO6_0.below hb
    replace HO8_0 := HO8_0.below hb
    replace hlaC : w.heap.size < w9.heap.size := Nat.lt_of_lt_of_le hlaC hb.size
    replace HB := Aside0.mk (below_on HB.out HB.out.size hb)
    clear hb
    go_wp2_with fail
    refine calls_named fun W10 hW => ?_
    have hs : Below w9.heap.size w9 W10 := by rw [hW]; repeat (first | exact Below.refl _ _ | apply below_alloc | apply below_drew1 | apply pw_below_drewN)
    clear hW
    replace hcaC_0 := pw_cell_below hs hcaC_0
    replace hcaC_1 := pw_cell_below hs hcaC_1
    replace HO2_0 := HO2_0.below hs
    replace HO3_0 := HO3_0.below hs
    replace HO4_0 := HO4_0.below hs
    replace HO6_0 := HO6_0.below hs
    replace HO8_0 := HO8_0.below hs
    replace hlaC : w.heap.size < W10.heap.size := Nat.lt_of_lt_of_le hlaC hs.size
    replace HB := Aside0.mk (below_on HB.out HB.out.size hs)
    have zs10 := Aside0.mk hs.size
    clear hs
    obtain ⟨kk10, e_10⟩ := HMB.out t_aData_0 1 (by have := HT0.out; omega) (by have := HT0.out; omega)
    replace e_10 := Aside0.mk e_10
    refine (laws_markByteS.calls kk10 (fun k => W4.heap.size ≤ k ∧ k < w4.heap.size) _ t_aData_0 1 _ _ w W10 HB.out HO4_0.out e_10.out).mono ?_
    rintro e w10 ⟨rfl, hS, hB, hk⟩
    clear e_10
    replace HO4_0 := OwnR.marked rfl HO4_0 hS
    clear hS
    have zc10 := Aside0.mk hk.1
    replace hcaC_0 := cell_kept hcaC_0 hk (fun h3_ => by have h4_ : W4.heap.size ≤ w.heap.size ∧ w.heap.size < w4.heap.size := h3_; clear h3_; have := zlaC.out; have := zs1.out; have := zc1.out; have := zs2.out; have := zc2.out; have := zs3.out; have := zc3.out; have := zs4.out; have := zc4.out; have := zs5.out; have := zc5.out; have := zs6.out; have := zc6.out; have := zs7.out; have := zc7.out; have := zs8.out; have := zc8.out; have := zs9.out; have := zc9.out; have := zs10.out; have := zc10.out; omega)
    replace hcaC_1 := cell_kept hcaC_1 hk (fun h3_ => by have h4_ : W4.heap.size ≤ w.heap.size ∧ w.heap.size < w4.heap.size := h3_; clear h3_; have := zlaC.out; have := zs1.out; have := zc1.out; have := zs2.out; have := zc2.out; have := zs3.out; have := zc3.out; have := zs4.out; have := zc4.out; have := zs5.out; have := zc5.out; have := zs6.out; have := zc6.out; have := zs7.out; have := zc7.out; have := zs8.out; have := zc8.out; have := zs9.out; have := zc9.out; have := zs10.out; have := zc10.out; omega)
    replace HO2_0 := HO2_0.kept hk (fun k_ h1_ h2_ h3_ => by have := zlaC.out; have := zs1.out; have := zc1.out; have := zs2.out; have := zc2.out; have := zs3.out; have := zc3.out; have := zs4.out; have := zc4.out; have := zs5.out; have := zc5.out; have := zs6.out; have := zc6.out; have := zs7.out; have := zc7.out; have := zs8.out; have := zc8.out; have := zs9.out; have := zc9.out; have := zs10.out; have := zc10.out; obtain ⟨h4_, h5_⟩ := h3_; omega)
    replace HO3_0 := HO3_0.kept hk (fun k_ h1_ h2_ h3_ => by have := zlaC.out; have := zs1.out; have := zc1.out; have := zs2.out; have := zc2.out; have := zs3.out; have := zc3.out; have := zs4.out; have := zc4.out; have := zs5.out; have := zc5.out; have := zs6.out; have := zc6.out; have := zs7.out; have := zc7.out; have := zs8.out; have := zc8.out; have := zs9.out; have := zc9.out; have := zs10.out; have := zc10.out; obtain ⟨h4_, h5_⟩ := h3_; omega)
    replace HO6_0 := HO6_0.kept hk (fun k_ h1_ h2_ h3_ => by have := zlaC.out; have := zs1.out; have := zc1.out; have := zs2.out; have := zc2.out; have := zs3.out; have := zc3.out; have := zs4.out; have := zc4.out; have := zs5.out; have := zc5.out; have := zs6.out; have := zc6.out; have := zs7.out; have := zc7.out; have := zs8.out; have := zc8.out; have := zs9.out; have := zc9.out; have := zs10.out; have := zc10.out; obtain ⟨h4_, h5_⟩ := h3_; omega)
    replace HO8_0 := HO8_0.kept hk (fun k_ h1_ h2_ h3_ => by have := zlaC.out; have := zs1.out; have := zc1.out; have := zs2.out; have := zc2.out; have := zs3.out; have := zc3.out; have := zs4.out; have := zc4.out; have := zs5.out; have := zc5.out; have := zs6.out; have := zc6.out; have := zs7.out; have := zc7.out; have := zs8.out; have := zc8.out; have := zs9.out; have := zc9.out; have := zs10.out; have := zc10.out; obtain ⟨h4_, h5_⟩ := h3_; omega)
    replace hlaC : w.heap.size < w10.heap.size := Nat.lt_of_lt_of_le hlaC hk.1
    replace HB := Aside0.mk hB
    clear hB hk
    go_wp2_with fail
    refine calls_named fun W11 hW => ?_
    have hs : Below w10.heap.size w10 W11 := by rw [hW]; repeat (first | exact Below.refl _ _ | apply below_alloc | apply below_drew1 | apply pw_below_drewN)
    clear hW
    replace hcaC_0 := pw_cell_below hs hcaC_0
    replace hcaC_1 := pw_cell_below hs hcaC_1
    replace HO2_0 := HO2_0.below hs
    replace HO3_0 := HO3_0.below hs
    replace HO4_0 := HO4_0.below hs
    replace HO6_0 := HO6_0.below hs
    replace HO8_0 := HO8_0.below hs
    replace hlaC : w.heap.size < W11.heap.size := Nat.lt_of_lt_of_le hlaC hs.size
    replace HB := Aside0.mk (below_on HB.out HB.out.size hs)
    have zs11 := Aside0.mk hs.size
    clear hs
    obtain ⟨kk11, e_11⟩ := E7.out
    replace e_11 := Aside0.mk e_11
    refine (laws_eqPieceS.calls kk11 _ _ r_0 _ _ r_0 true W11 HO6_0.C HO6_0.cap HO3_0.C HO3_0.cap e_11.out).mono ?_
    rintro e w11 ⟨rfl, hb⟩
    clear e_11
    have zc11 := Aside0.mk hb.size
    replace hcaC_0 := pw_cell_below hb hcaC_0
    replace hcaC_1 := pw_cell_below hb hcaC_1
    replace HO2_0 := HO2_0.below hb
    replace HO3_0 := HO3_0.below hb
    replace HO4_0 := HO4_0.below hb
    replace HO6_0 := HO6_0.below hb
    replace HO8_0 := HO8_0.below hb
    replace hlaC : w.heap.size < w11.heap.size := Nat.lt_of_lt_of_le hlaC hb.size
    replace HB := Aside0.mk (below_on HB.out HB.out.size hb)
    clear hb
    go_wp2_with fail
    refine calls_named fun W12 hW => ?_
    have hs : Below w11.heap.size w11 W12 := by rw [hW]; repeat (first | exact Below.refl _ _ | apply below_alloc | apply below_drew1 | apply pw_below_drewN)
    clear hW
    replace hcaC_0 := pw_cell_below hs hcaC_0
    replace hcaC_1 := pw_cell_below hs hcaC_1
    replace HO2_0 := HO2_0.below hs
    replace HO3_0 := HO3_0.below hs
    replace HO4_0 := HO4_0.below hs
    replace HO6_0 := HO6_0.below hs
    replace HO8_0 := HO8_0.below hs
    replace hlaC : w.heap.size < W12.heap.size := Nat.lt_of_lt_of_le hlaC hs.size
    replace HB := Aside0.mk (below_on HB.out HB.out.size hs)
    have zs12 := Aside0.mk hs.size
    clear hs
    refine (laws_markPieceS.calls (fun k => W6.heap.size ≤ k ∧ k < w6.heap.size) _ r_0 1 w W12 HB.out HO6_0.out HMB.out (by have := HT0.out; have := HT1.out; omega) (by have := HT0.out; have := HT1.out; omega) (by have := HT0.out; have := HT1.out; omega)).mono ?_
    rintro e w12 ⟨rfl, hS, hB, hk⟩
    replace HO6_0 := OwnS.mk hS
    clear hS
    have zc12 := Aside0.mk hk.1
    replace hcaC_0 := cell_kept hcaC_0 hk (fun h3_ => by have h4_ : W6.heap.size ≤ w.heap.size ∧ w.heap.size < w6.heap.size := h3_; clear h3_; have := zlaC.out; have := zs1.out; have := zc1.out; have := zs2.out; have := zc2.out; have := zs3.out; have := zc3.out; have := zs4.out; have := zc4.out; have := zs5.out; have := zc5.out; have := zs6.out; have := zc6.out; have := zs7.out; have := zc7.out; have := zs8.out; have := zc8.out; have := zs9.out; have := zc9.out; have := zs10.out; have := zc10.out; have := zs11.out; have := zc11.out; have := zs12.out; have := zc12.out; omega)
    replace hcaC_1 := cell_kept hcaC_1 hk (fun h3_ => by have h4_ : W6.heap.size ≤ w.heap.size ∧ w.heap.size < w6.heap.size := h3_; clear h3_; have := zlaC.out; have := zs1.out; have := zc1.out; have := zs2.out; have := zc2.out; have := zs3.out; have := zc3.out; have := zs4.out; have := zc4.out; have := zs5.out; have := zc5.out; have := zs6.out; have := zc6.out; have := zs7.out; have := zc7.out; have := zs8.out; have := zc8.out; have := zs9.out; have := zc9.out; have := zs10.out; have := zc10.out; have := zs11.out; have := zc11.out; have := zs12.out; have := zc12.out; omega)
    replace HO2_0 := HO2_0.kept hk (fun k_ h1_ h2_ h3_ => by have := zlaC.out; have := zs1.out; have := zc1.out; have := zs2.out; have := zc2.out; have := zs3.out; have := zc3.out; have := zs4.out; have := zc4.out; have := zs5.out; have := zc5.out; have := zs6.out; have := zc6.out; have := zs7.out; have := zc7.out; have := zs8.out; have := zc8.out; have := zs9.out; have := zc9.out; have := zs10.out; have := zc10.out; have := zs11.out; have := zc11.out; have := zs12.out; have := zc12.out; obtain ⟨h4_, h5_⟩ := h3_; omega)
    replace HO3_0 := HO3_0.kept hk (fun k_ h1_ h2_ h3_ => by have := zlaC.out; have := zs1.out; have := zc1.out; have := zs2.out; have := zc2.out; have := zs3.out; have := zc3.out; have := zs4.out; have := zc4.out; have := zs5.out; have := zc5.out; have := zs6.out; have := zc6.out; have := zs7.out; have := zc7.out; have := zs8.out; have := zc8.out; have := zs9.out; have := zc9.out; have := zs10.out; have := zc10.out; have := zs11.out; have := zc11.out; have := zs12.out; have := zc12.out; obtain ⟨h4_, h5_⟩ := h3_; omega)
    replace HO4_0 := HO4_0.kept hk (fun k_ h1_ h2_ h3_ => by have := zlaC.out; have := zs1.out; have := zc1.out; have := zs2.out; have := zc2.out; have := zs3.out; have := zc3.out; have := zs4.out; have := zc4.out; have := zs5.out; have := zc5.out; have := zs6.out; have := zc6.out; have := zs7.out; have := zc7.out; have := zs8.out; have := zc8.out; have := zs9.out; have := zc9.out; have := zs10.out; have := zc10.out; have := zs11.out; have := zc11.out; have := zs12.out; have := zc12.out; obtain ⟨h4_, h5_⟩ := h3_; omega)
    replace HO8_0 := HO8_0.kept hk (fun k_ h1_ h2_ h3_ => by have := zlaC.out; have := zs1.out; have := zc1.out; have := zs2.out; have := zc2.out; have := zs3.out; have := zc3.out; have := zs4.out; have := zc4.out; have := zs5.out; have := zc5.out; have := zs6.out; have := zc6.out; have := zs7.out; have := zc7.out; have := zs8.out; have := zc8.out; have := zs9.out; have := zc9.out; have := zs10.out; have := zc10.out; have := zs11.out; have := zc11.out; have := zs12.out; have := zc12.out; obtain ⟨h4_, h5_⟩ := h3_; omega)
    replace hlaC : w.heap.size < w12.heap.size := Nat.lt_of_lt_of_le hlaC hk.1
    replace HB := Aside0.mk hB
    clear hB hk
    go_wp2_with fail
    refine calls_named fun W13 hW => ?_
    have hs : Below w12.heap.size w12 W13 := by rw [hW]; repeat (first | exact Below.refl _ _ | apply below_alloc | apply below_drew1 | apply pw_below_drewN)
    clear hW
    replace hcaC_0 := pw_cell_below hs hcaC_0
    replace hcaC_1 := pw_cell_below hs hcaC_1
    replace HO2_0 := HO2_0.below hs
    replace HO3_0 := HO3_0.below hs
    replace HO4_0 := HO4_0.below hs
    replace HO6_0 := HO6_0.below hs
    replace HO8_0 := HO8_0.below hs
    replace hlaC : w.heap.size < W13.heap.size := Nat.lt_of_lt_of_le hlaC hs.size
    replace HB := Aside0.mk (below_on HB.out HB.out.size hs)
    have zs13 := Aside0.mk hs.size
    clear hs
    obtain ⟨kk13, e_13⟩ := E9.out
    replace e_13 := Aside0.mk e_13
    refine calls_of_args (args' := #[.slice A6_0 (markPS 1 r_0).length c6_0, .int .i64 1]) (by simp [markSS_length, markB_length, markI_length, markTS_length, markPS_length]) ?_
    refine (laws_heldPieceS.calls kk13 _ _ (markPS 1 r_0) 1 (1 + ((totPS r_0 : Nat) : Int)) W13 HO6_0.C HO6_0.cap e_13.out).mono ?_
    rintro e w13 ⟨rfl, hd⟩
    have hb := hd.below
    clear hd
    clear e_13
    have zc13 := Aside0.mk hb.size
    replace hcaC_0 := pw_cell_below hb hcaC_0
    replace hcaC_1 := pw_cell_below hb hcaC_1
    replace HO2_0 := HO2_0.below hb
    replace HO3_0 := HO3_0.below hb
    replace HO4_0 := HO4_0.below hb
    replace HO6_0 := HO6_0.below hb
    replace HO8_0 := HO8_0.below hb
    replace hlaC : w.heap.size < w13.heap.size := Nat.lt_of_lt_of_le hlaC hb.size
    replace HB := Aside0.mk (below_on HB.out HB.out.size hb)
    clear hb
    go_wp2_with fail
    refine calls_named fun W14 hW => ?_
    have hs : Below w13.heap.size w13 W14 := by rw [hW]; repeat (first | exact Below.refl _ _ | apply below_alloc | apply below_drew1 | apply pw_below_drewN)
    clear hW
    replace hcaC_0 := pw_cell_below hs hcaC_0
    replace hcaC_1 := pw_cell_below hs hcaC_1
    replace HO2_0 := HO2_0.below hs
    replace HO3_0 := HO3_0.below hs
    replace HO4_0 := HO4_0.below hs
    replace HO6_0 := HO6_0.below hs
    replace HO8_0 := HO8_0.below hs
    replace hlaC : w.heap.size < W14.heap.size := Nat.lt_of_lt_of_le hlaC hs.size
    replace HB := Aside0.mk (below_on HB.out HB.out.size hs)
    have zs14 := Aside0.mk hs.size
    clear hs
    refine (laws_toMsr.calls a0_0 a0_1 a0_0 a0_1 W14  E1.out).mono ?_
    rintro e w14 ⟨rfl, hb⟩
    have zc14 := Aside0.mk hb.size
    replace hcaC_0 := pw_cell_below hb hcaC_0
    replace hcaC_1 := pw_cell_below hb hcaC_1
    replace HO2_0 := HO2_0.below hb
    replace HO3_0 := HO3_0.below hb
    replace HO4_0 := HO4_0.below hb
    replace HO6_0 := HO6_0.below hb
    replace HO8_0 := HO8_0.below hb
    replace hlaC : w.heap.size < w14.heap.size := Nat.lt_of_lt_of_le hlaC hb.size
    replace HB := Aside0.mk (below_on HB.out HB.out.size hb)
    clear hb
    go_wp2_with fail
    refine calls_named fun W15 hW => ?_
    have hs : Below w14.heap.size w14 W15 := by rw [hW]; repeat (first | exact Below.refl _ _ | apply below_alloc | apply below_drew1 | apply pw_below_drewN)
    clear hW
    replace hcaC_0 := pw_cell_below hs hcaC_0
    replace hcaC_1 := pw_cell_below hs hcaC_1
    replace HO2_0 := HO2_0.below hs
    replace HO3_0 := HO3_0.below hs
    replace HO4_0 := HO4_0.below hs
    replace HO6_0 := HO6_0.below hs
    replace HO8_0 := HO8_0.below hs
    replace hlaC : w.heap.size < W15.heap.size := Nat.lt_of_lt_of_le hlaC hs.size
    replace HB := Aside0.mk (below_on HB.out HB.out.size hs)
    have zs15 := Aside0.mk hs.size
    clear hs
    obtain ⟨kk15, e_15⟩ := E3.out
    replace e_15 := Aside0.mk e_15
    refine (laws_toByteS.calls kk15 _ _ l1 t_aData_0 W15 (Kd.C_below HR1.out HB.out) HC1.out e_15.out).mono ?_
    rintro e w15 ⟨v15_0, rfl, h15_0, hb⟩
    clear e_15
    have HO15_0 := OwnR.new (b := w.heap.size) h15_0 HB.out.size
    clear h15_0
    have zc15 := Aside0.mk hb.size
    replace hcaC_0 := pw_cell_below hb hcaC_0
    replace hcaC_1 := pw_cell_below hb hcaC_1
    replace HO2_0 := HO2_0.below hb
    replace HO3_0 := HO3_0.below hb
    replace HO4_0 := HO4_0.below hb
    replace HO6_0 := HO6_0.below hb
    replace HO8_0 := HO8_0.below hb
    replace hlaC : w.heap.size < w15.heap.size := Nat.lt_of_lt_of_le hlaC hb.size
    replace HB := Aside0.mk (below_on HB.out HB.out.size hb)
    clear hb
    obtain ⟨A15_0, c15_0, rfl⟩ := HO15_0.slice
    go_wp2_with fail
    refine calls_named fun W16 hW => ?_
    have hs : Below w15.heap.size w15 W16 := by rw [hW]; repeat (first | exact Below.refl _ _ | apply below_alloc | apply below_drew1 | apply pw_below_drewN)
    clear hW
    replace hcaC_0 := pw_cell_below hs hcaC_0
    replace hcaC_1 := pw_cell_below hs hcaC_1
    replace HO2_0 := HO2_0.below hs
    replace HO3_0 := HO3_0.below hs
    replace HO4_0 := HO4_0.below hs
    replace HO6_0 := HO6_0.below hs
    replace HO8_0 := HO8_0.below hs
    replace HO15_0 := HO15_0.below hs
    replace hlaC : w.heap.size < W16.heap.size := Nat.lt_of_lt_of_le hlaC hs.size
    replace HB := Aside0.mk (below_on HB.out HB.out.size hs)
    have zs16 := Aside0.mk hs.size
    clear hs
    obtain ⟨kk16, e_16⟩ := E6.out
    replace e_16 := Aside0.mk e_16
    refine (impl_EncodeMsr.calls kk16 a0_0 a0_1 _ _ t_aData_0 r_0 r_1 W16 HO15_0.C HO15_0.cap e_16.out).mono ?_
    rintro e w16 ⟨v16_0, rfl, h16_0, hb⟩
    clear e_16
    have HO16_0 := OwnS.new (b := w.heap.size) h16_0 HB.out.size
    clear h16_0
    have zc16 := Aside0.mk hb.size
    replace hcaC_0 := pw_cell_below hb hcaC_0
    replace hcaC_1 := pw_cell_below hb hcaC_1
    replace HO2_0 := HO2_0.below hb
    replace HO3_0 := HO3_0.below hb
    replace HO4_0 := HO4_0.below hb
    replace HO6_0 := HO6_0.below hb
    replace HO8_0 := HO8_0.below hb
    replace HO15_0 := HO15_0.below hb
    replace hlaC : w.heap.size < w16.heap.size := Nat.lt_of_lt_of_le hlaC hb.size
    replace HB := Aside0.mk (below_on HB.out HB.out.size hb)
    clear hb
    obtain ⟨A16_0, c16_0, rfl⟩ := HO16_0.slice
    go_wp2_with fail
    refine calls_named fun W17 hW => ?_
    have hs : Below w16.heap.size w16 W17 := by rw [hW]; repeat (first | exact Below.refl _ _ | apply below_alloc | apply below_drew1 | apply pw_below_drewN)
    clear hW
    replace hcaC_0 := pw_cell_below hs hcaC_0
    replace hcaC_1 := pw_cell_below hs hcaC_1
    replace HO2_0 := HO2_0.below hs
    replace HO3_0 := HO3_0.below hs
    replace HO4_0 := HO4_0.below hs
    replace HO6_0 := HO6_0.below hs
    replace HO8_0 := HO8_0.below hs
    replace HO15_0 := HO15_0.below hs
    replace HO16_0 := HO16_0.below hs
    replace hlaC : w.heap.size < W17.heap.size := Nat.lt_of_lt_of_le hlaC hs.size
    replace HB := Aside0.mk (below_on HB.out HB.out.size hs)
    have zs17 := Aside0.mk hs.size
    clear hs
    obtain ⟨kk17, e_17⟩ := E7.out
    replace e_17 := Aside0.mk e_17
    refine (laws_eqPieceS.calls kk17 _ _ r_0 _ _ r_0 true W17 HO16_0.C HO16_0.cap HO3_0.C HO3_0.cap e_17.out).mono ?_
    rintro e w17 ⟨rfl, hb⟩
    clear e_17
    have zc17 := Aside0.mk hb.size
    replace hcaC_0 := pw_cell_below hb hcaC_0
    replace hcaC_1 := pw_cell_below hb hcaC_1
    replace HO2_0 := HO2_0.below hb
    replace HO3_0 := HO3_0.below hb
    replace HO4_0 := HO4_0.below hb
    replace HO6_0 := HO6_0.below hb
    replace HO8_0 := HO8_0.below hb
    replace HO15_0 := HO15_0.below hb
    replace HO16_0 := HO16_0.below hb
    replace hlaC : w.heap.size < w17.heap.size := Nat.lt_of_lt_of_le hlaC hb.size
    replace HB := Aside0.mk (below_on HB.out HB.out.size hb)
    clear hb
    go_wp2_with fail
    refine calls_named fun W18 hW => ?_
    have hs : Below w17.heap.size w17 W18 := by rw [hW]; repeat (first | exact Below.refl _ _ | apply below_alloc | apply below_drew1 | apply pw_below_drewN)
    clear hW
    replace hcaC_0 := pw_cell_below hs hcaC_0
    replace hcaC_1 := pw_cell_below hs hcaC_1
    replace HO2_0 := HO2_0.below hs
    replace HO3_0 := HO3_0.below hs
    replace HO4_0 := HO4_0.below hs
    replace HO6_0 := HO6_0.below hs
    replace HO8_0 := HO8_0.below hs
    replace HO15_0 := HO15_0.below hs
    replace HO16_0 := HO16_0.below hs
    replace hlaC : w.heap.size < W18.heap.size := Nat.lt_of_lt_of_le hlaC hs.size
    replace HB := Aside0.mk (below_on HB.out HB.out.size hs)
    have zs18 := Aside0.mk hs.size
    clear hs
    obtain ⟨kk18, e_18⟩ := E9.out
    replace e_18 := Aside0.mk e_18
    refine calls_of_args (args' := #[.slice A6_0 (markPS 1 r_0).length c6_0, .int .i64 1]) (by simp [markSS_length, markB_length, markI_length, markTS_length, markPS_length]) ?_
    refine (laws_heldPieceS.calls kk18 _ _ (markPS 1 r_0) 1 (1 + ((totPS r_0 : Nat) : Int)) W18 HO6_0.C HO6_0.cap e_18.out).mono ?_
    rintro e w18 ⟨rfl, hd⟩
    have hb := hd.below
    clear hd
    clear e_18
    have zc18 := Aside0.mk hb.size
    replace hcaC_0 := pw_cell_below hb hcaC_0
    replace hcaC_1 := pw_cell_below hb hcaC_1
    replace HO2_0 := HO2_0.below hb
    replace HO3_0 := HO3_0.below hb
    replace HO4_0 := HO4_0.below hb
    replace HO6_0 := HO6_0.below hb
    replace HO8_0 := HO8_0.below hb
    replace HO15_0 := HO15_0.below hb
    replace HO16_0 := HO16_0.below hb
    replace hlaC : w.heap.size < w18.heap.size := Nat.lt_of_lt_of_le hlaC hb.size
    replace HB := Aside0.mk (below_on HB.out HB.out.size hb)
    clear hb
    go_wp2
    go_ret
    exact ⟨rfl, by repeat (first | exact HB.out | apply below_alloc | apply below_drew1 | apply pw_below_drewN)⟩
end Go.Proofs.Yteflgifmdojahaa.PFnExactEncodeMsr
