/- Small words for printed functions: what is told with rounds enough (Ev), and lists of numbers; no program stands here. -/
import Derived.Test.YtlmcobjpmonkfaaVMergeStripesWMore
import Derived.Test.YtlmcobjpmonkfaaVMergeStripesGf
namespace Go.Proofs.Ytlmcobjpmonkfaa.Kit
open Go.RowKit Go.Proofs.YtlmcobjpmonkfaaW.PrintWords Go.Proofs.YtlmcobjpmonkfaaW.PrintLast Go.Proofs.Ytlmcobjpmonkfaa.Gf
set_option linter.unusedVariables false
set_option linter.unusedSimpArgs false

section
variable {α β : Type} {g h : Nat → Option α} {r r' : α} {c : Prop} [Decidable c]
theorem ev_pos (hc : c) (e : Ev g r) : Ev (fun k => if c then g k else h k) r := by simp only [if_pos hc]; exact e
theorem ev_neg (hc : ¬ c) (e : Ev h r) : Ev (fun k => if c then g k else h k) r := by simp only [if_neg hc]; exact e
theorem ev_now (e : r = r') : Ev (fun _ => some r) r' := by subst e; exact Ev.now r
theorem ev_eq (e : Ev g r) (he : r = r') : Ev g r' := he ▸ e
theorem ev_bind {g : Nat → Option α} {f : Nat → α → Option β} {a : α} {r : β} (h : Ev g a) (k : Ev (fun n => f n a) r) : Ev (fun n => (g n).bind (f n)) r := Ev.bind h k
end
/-- What a list holds at a place. -/
theorem rd_nat (xs : List Int) (i : Nat) : rd xs (i : Int) = xs.getD i 0 := by unfold rd; simp
theorem rd_get {xs : List Int} {i : Nat} (h : i < xs.length) : rd xs (i : Int) = xs[i] := by rw [rd_nat]; simp [List.getD, h]
theorem bytes_get {xs : List Int} (hb : Bytes xs) {i : Nat} (h : i < xs.length) : Byte xs[i] := hb _ (List.getElem_mem h)
theorem bytes_rd {xs : List Int} (hb : Bytes xs) {i : Nat} (h : i < xs.length) : Byte (rd xs (i : Int)) := by rw [rd_get h]; exact bytes_get hb h
theorem inc {i : Nat} (h : i < 4611686018427387904) : wrap64 ((i : Int) + 1) = ((i + 1 : Nat) : Int) := by unfold wrap64; omega
/-- The numbers that mark a row of bytes. -/
def markB (a : Int) (n : Nat) : List Int := (List.range n).map fun i => (a + (i : Nat)) % 256
theorem markB_length (a : Int) (n : Nat) : (markB a n).length = n := by simp [markB]
/-- Sums of two rows. -/
def addV (v w : List Int) : List Int := List.zipWith gx v w
theorem addV_length (v w : List Int) : (addV v w).length = min v.length w.length := by simp [addV]
/-- A row times a byte. -/
def scale (a : Int) (v : List Int) : List Int := v.map (mul a)
theorem scale_length (a : Int) (v : List Int) : (scale a v).length = v.length := by simp [scale]
theorem scale_bytes {a : Int} (ha : Byte a) (v : List Int) : Bytes (scale a v) := by
  intro x hx
  simp only [scale, List.mem_map] at hx
  obtain ⟨y, _, rfl⟩ := hx
  exact Byte.mul ha y
theorem _root_.Go.Proofs.Ytlmcobjpmonkfaa.Gf.Bytes.nil : Bytes [] := by intro x hx; simp at hx
theorem _root_.Go.Proofs.Ytlmcobjpmonkfaa.Gf.Bytes.append {v w : List Int} (hv : Bytes v) (hw : Bytes w) : Bytes (v ++ w) := by
  intro x hx
  rcases List.mem_append.1 hx with h | h
  · exact hv x h
  · exact hw x h
theorem _root_.Go.Proofs.Ytlmcobjpmonkfaa.Gf.Bytes.one {x : Int} (hx : Byte x) : Bytes [x] := by intro y hy; simp at hy; subst hy; exact hx
theorem _root_.Go.Proofs.Ytlmcobjpmonkfaa.Gf.Bytes.cons {x : Int} {l : List Int} (hx : Byte x) (hl : Bytes l) : Bytes (x :: l) := by
  intro y hy
  rcases List.mem_cons.1 hy with rfl | h
  · exact hx
  · exact hl y h
theorem _root_.Go.Proofs.Ytlmcobjpmonkfaa.Gf.Bytes.drop {l : List Int} (h : Bytes l) (n : Nat) : Bytes (l.drop n) := fun x hx => h x (List.mem_of_mem_drop hx)
theorem _root_.Go.Proofs.Ytlmcobjpmonkfaa.Gf.Bytes.take {l : List Int} (h : Bytes l) (n : Nat) : Bytes (l.take n) := fun x hx => h x (List.mem_of_mem_take hx)
/-! ### Codes' sizes -/
theorem byte3 : Byte 3 := ⟨by decide, by decide⟩
/-- The numbers that mark a row of whole numbers. -/
def markI (a : Int) (n : Nat) : List Int := (List.range n).map fun i => a + (i : Nat)
theorem markI_length (a : Int) (n : Nat) : (markI a n).length = n := by simp [markI]
/-- Rows marked, one behind the other. -/
def markSS : Int → List (List Int) → List (List Int)
  | _, [] => []
  | a, l :: ls => markB a l.length :: markSS (a + (l.length : Nat)) ls
theorem markSS_length (a : Int) (l : List (List Int)) : (markSS a l).length = l.length := by
  induction l generalizing a with
  | nil => rfl
  | cons x l ih => simp [markSS, ih]
/-! ### Rows of rows -/
end Go.Proofs.Ytlmcobjpmonkfaa.Kit
