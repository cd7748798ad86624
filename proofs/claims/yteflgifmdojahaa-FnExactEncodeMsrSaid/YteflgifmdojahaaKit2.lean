/- More words for the printed functions: lists that rise, parts of matrices; no program stands here. -/
import Derived.Test.YteflgifmdojahaaKit
namespace Go.Proofs.Yteflgifmdojahaa.Kit
open Go.RowKit Go.Proofs.YteflgifmdojahaaW.PrintWords Go.Proofs.YteflgifmdojahaaW.PrintLast Go.Proofs.Yteflgifmdojahaa.Gf
set_option linter.unusedVariables false
set_option linter.unusedSimpArgs false
/-! ### Lists that rise, below n -/
def riseAt (l : List Int) (n i : Nat) : Bool := decide ((0 ≤ rd l (i : Int) ∧ rd l (i : Int) ≤ (n : Int) - 1) ∧ (i = 0 ∨ rd l ((i - 1 : Nat) : Int) < rd l (i : Int)))
def rising (l : List Int) (n : Nat) : Bool := (List.range l.length).all fun i => riseAt l n i
theorem riseAt_yes {l : List Int} {n i : Nat} (h : 0 ≤ rd l (i : Int) ∧ rd l (i : Int) ≤ (n : Int) - 1) (h2 : i = 0 ∨ rd l ((i - 1 : Nat) : Int) < rd l (i : Int)) : riseAt l n i = true := decide_eq_true ⟨h, h2⟩
theorem riseAt_no {l : List Int} {n i : Nat} (h : ¬ ((0 ≤ rd l (i : Int) ∧ rd l (i : Int) ≤ (n : Int) - 1) ∧ (i = 0 ∨ rd l ((i - 1 : Nat) : Int) < rd l (i : Int)))) : riseAt l n i = false := decide_eq_false h
theorem rising_yes {l : List Int} {n : Nat} (h : ∀ j, j < l.length → riseAt l n j = true) : rising l n = true := by
  unfold rising
  rw [List.all_eq_true]
  exact fun x hx => h x (by simpa using hx)
theorem rising_no {l : List Int} {n i : Nat} (hi : i < l.length) (h : riseAt l n i = false) : rising l n = false := by
  unfold rising
  rw [List.all_eq_false]
  exact ⟨i, by simpa using hi, by rw [h]; simp⟩
theorem rising_in {l : List Int} {n : Nat} (h : rising l n = true) : ∀ j, j < l.length → 0 ≤ rd l (j : Int) ∧ rd l (j : Int) < (n : Int) := by
  intro j hj
  unfold rising at h
  rw [List.all_eq_true] at h
  have := h j (by simpa using hj)
  unfold riseAt at this
  have := of_decide_eq_true this
  omega
/-- A rising list below n has n elements at most. -/
theorem rising_len {l : List Int} {n : Nat} (h : rising l n = true) : l.length ≤ n := by
  have hs : ∀ j, j < l.length → (j : Int) ≤ rd l (j : Int) := by
    intro j
    induction j with
    | zero => intro hj; exact (rising_in h 0 hj).1
    | succ j ih =>
      intro hj
      have h1 := ih (by omega)
      unfold rising at h
      rw [List.all_eq_true] at h
      have := of_decide_eq_true (h (j + 1) (by simpa using hj))
      have h2 := this.2
      rw [show j + 1 - 1 = j by omega] at h2
      omega
  by_cases e : l.length = 0
  · omega
  · have h1 := hs (l.length - 1) (by omega)
    have h2 := rising_in h (l.length - 1) (by omega)
    omega
/-- Some rows' and columns' part. -/
def partRow (m : List (List Int)) (c : List Int) (a : Nat) : List Int := (List.range c.length).map fun (j : Nat) => rd (m.getD a []) (rd c ((j : Nat) : Int))
def partM (m : List (List Int)) (r c : List Int) : List (List Int) := (List.range r.length).map fun (i : Nat) => partRow m c (rd r ((i : Nat) : Int)).toNat
theorem partRow_length (m : List (List Int)) (c : List Int) (a : Nat) : (partRow m c a).length = c.length := by simp [partRow]
theorem partM_length (m : List (List Int)) (r c : List Int) : (partM m r c).length = r.length := by simp [partM]
theorem partRow_succ (m : List (List Int)) (c : List Int) (a j : Nat) (h : j < c.length) : (partRow m c a).take (j + 1) = (partRow m c a).take j ++ [rd (m.getD a []) (rd c (j : Int))] := by
  rw [List.take_succ_eq_append_getElem (by rw [partRow_length]; exact h)]
  simp [partRow]
theorem partM_succ (m : List (List Int)) (r c : List Int) (i : Nat) (h : i < r.length) : (partM m r c).take (i + 1) = (partM m r c).take i ++ [partRow m c (rd r (i : Int)).toNat] := by
  rw [List.take_succ_eq_append_getElem (by rw [partM_length]; exact h)]
  simp [partM]
theorem partM_rows {k : Nat} (m : List (List Int)) {r c : List Int} (h : r.length ≤ k) (h2 : c.length ≤ k) : rowsLe k (partM m r c) := by
  refine ⟨by rw [partM_length]; exact h, fun x hx => ?_⟩
  simp only [partM, List.mem_map] at hx
  obtain ⟨i, _, rfl⟩ := hx
  rw [partRow_length]; exact h2
end Go.Proofs.Yteflgifmdojahaa.Kit
