/- Words for contracts by hand: text as bytes, the first place at which something holds; no program stands here. -/
import Derived.Test.YteflgifmdojahaaWMore
import Derived.Lib.ConvBytes
import Derived.Laws.BytesArg
import Derived.Laws.AppendOwn
import Derived.Lib.SliceRun
namespace Go.Proofs.Yteflgifmdojahaa.KitW
open Go.RowKit Go.Proofs.YteflgifmdojahaaW.PrintWords Go.Proofs.YteflgifmdojahaaW.PrintLast
set_option linter.unusedVariables false
set_option linter.unusedSimpArgs false
theorem bytes_C (W : World) (e : TypeId) (s : ByteArray) (h : s.size ≤ 140737488355328) : Kd.C (Kd.int .u8) (Lib.bytesWorld W e s) (some ⟨W.heap.size, 0, none⟩) (bytesOf s).length (bytesOf s) := by
  have hr := bytes_reads W e s (by omega)
  rw [bytesOf_length]
  exact Kd.C_of_reads (enc := Value.int .u8) (d := (0 : Int)) hr
theorem bytes_cap (W : World) (n : Nat) (e : TypeId) : n ≤ grownCap W n 0 e := by
  have := grownCap_ge W n 0 e
  omega
theorem drawn_trans {a b c : World} (h : Drawn0 a b) (k : Drawn0 b c) : Drawn0 a c := by
  obtain ⟨q, rfl⟩ := k.out
  exact Drawn0.step h q
/-- The first place below n at which p holds, -1 if there is none. -/
def IdxOf (p : Nat → Bool) (n : Nat) (r : Int) : Prop := (r = -1 ∧ ∀ i, i < n → p i = false) ∨ ∃ i : Nat, i < n ∧ r = (i : Int) ∧ p i = true ∧ ∀ j, j < i → p j = false
theorem idxOf_nonneg {p : Nat → Bool} {n : Nat} {r : Int} (h : IdxOf p n r) : decide (r ≥ 0) = (List.range n).any p := by
  rcases h with ⟨rfl, h⟩ | ⟨i, hi, rfl, hp, _⟩
  · have : (List.range n).any p = false := by
      rw [List.any_eq_false]
      intro x hx
      rw [h x (by simpa using hx)]
      simp
    rw [this]; rfl
  · have : (List.range n).any p = true := List.any_eq_true.2 ⟨i, by simpa using hi, hp⟩
    rw [this]; simp
/-- Texts of one length, which is not too great? -/
def textsOk (l : List ByteArray) : Bool := !((List.range l.length).any fun i => decide (40 < (l.getD i ByteArray.empty).size) || (l.getD i ByteArray.empty).size != (l.getD 0 ByteArray.empty).size)
end Go.Proofs.Yteflgifmdojahaa.KitW
