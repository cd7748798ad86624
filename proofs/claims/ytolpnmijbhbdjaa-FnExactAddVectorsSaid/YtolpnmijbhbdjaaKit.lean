/- Small words for printed functions: what is told with rounds enough (Ev), and lists of numbers; no program stands here. -/
import Derived.Test.YtolpnmijbhbdjaaWMore
import Derived.Test.YtolpnmijbhbdjaaGf
namespace Go.Proofs.Ytolpnmijbhbdjaa.Kit
open Go.RowKit Go.Proofs.YtolpnmijbhbdjaaW.PrintWords Go.Proofs.YtolpnmijbhbdjaaW.PrintLast Go.Proofs.Ytolpnmijbhbdjaa.Gf
set_option linter.unusedVariables false
set_option linter.unusedSimpArgs false

section
variable {α β : Type} {g h : Nat → Option α} {r r' : α} {c : Prop} [Decidable c]
theorem ev_pos (hc : c) (e : Ev g r) : Ev (fun k => if c then g k else h k) r := by simp only [if_pos hc]; exact e
theorem ev_neg (hc : ¬ c) (e : Ev h r) : Ev (fun k => if c then g k else h k) r := by simp only [if_neg hc]; exact e
theorem ev_now (e : r = r') : Ev (fun _ => some r) r' := by subst e; exact Ev.now r
theorem ev_eq (e : Ev g r) (he : r = r') : Ev g r' := he ▸ e
theorem ev_bind {g : Nat → Option α} {f : Nat → α → Option β} {a : α} {r : β} (h : Ev g a) (k : Ev (fun n => f n a) r) : Ev (fun n => (g n).bind (f n)) r := Ev.bind h k
theorem ev_some {f : α → Option β} {a : α} {r : β} (h : f a = some r) : Ev (fun _ => (some a).bind f) r := by simp only [Option.bind_some, h]; exact Ev.now r
end
/-- What a list holds at a place. -/
theorem rd_nat (xs : List Int) (i : Nat) : rd xs (i : Int) = xs.getD i 0 := by unfold rd; simp
theorem rd_get {xs : List Int} {i : Nat} (h : i < xs.length) : rd xs (i : Int) = xs[i] := by rw [rd_nat]; simp [List.getD, h]
theorem bytes_get {xs : List Int} (hb : Bytes xs) {i : Nat} (h : i < xs.length) : Byte xs[i] := hb _ (List.getElem_mem h)
theorem bytes_rd {xs : List Int} (hb : Bytes xs) {i : Nat} (h : i < xs.length) : Byte (rd xs (i : Int)) := by rw [rd_get h]; exact bytes_get hb h
theorem inc {i : Nat} (h : i < 4611686018427387904) : wrap64 ((i : Int) + 1) = ((i + 1 : Nat) : Int) := by unfold wrap64; omega
theorem dec {i : Nat} (h : i < 4611686018427387904) : wrap64 ((i : Int) - 1) = (i : Int) - 1 := by unfold wrap64; omega
/-- The numbers that mark a row of bytes. -/
def markB (a : Int) (n : Nat) : List Int := (List.range n).map fun i => (a + (i : Nat)) % 256
theorem markB_length (a : Int) (n : Nat) : (markB a n).length = n := by simp [markB]
theorem markB_get (a : Int) (n i : Nat) (h : i < (markB a n).length) : (markB a n)[i] = (a + (i : Nat)) % 256 := by simp [markB]
theorem take_set_succ (l : List Int) (i : Nat) (v : Int) (h : i < l.length) : (l.set i v).take (i + 1) = l.take i ++ [v] := by
  rw [List.take_succ_eq_append_getElem (by simpa using h)]
  simp [List.take_set_of_le]
theorem drop_set_succ (l : List Int) (i : Nat) (v : Int) : (l.set i v).drop (i + 1) = l.drop (i + 1) := by
  rw [List.drop_set_of_lt (by omega)]
/-- Sums of two rows. -/
def addV (v w : List Int) : List Int := List.zipWith gx v w
theorem addV_length (v w : List Int) : (addV v w).length = min v.length w.length := by simp [addV]
theorem addV_bytes {v w : List Int} (hv : Bytes v) (hw : Bytes w) : Bytes (addV v w) := by
  intro x hx
  obtain ⟨i, hi, rfl⟩ := List.getElem_of_mem hx
  simp only [addV, List.getElem_zipWith]
  simp only [addV, List.length_zipWith] at hi
  exact Byte.gx (bytes_get hv (by omega)) (bytes_get hw (by omega))
/-- A row times a byte. -/
def scale (a : Int) (v : List Int) : List Int := v.map (mul a)
theorem scale_length (a : Int) (v : List Int) : (scale a v).length = v.length := by simp [scale]
theorem scale_bytes {a : Int} (ha : Byte a) (v : List Int) : Bytes (scale a v) := by
  intro x hx
  simp only [scale, List.mem_map] at hx
  obtain ⟨y, _, rfl⟩ := hx
  exact Byte.mul ha y
/-- The sum of the products. -/
def dotV : List Int → List Int → Int
  | x :: v, y :: w => gx (mul x y) (dotV v w)
  | _, _ => 0
theorem dotV_byte {v w : List Int} (hv : Bytes v) : Byte (dotV v w) := by
  induction v generalizing w with
  | nil => exact .zero
  | cons x v ih =>
    cases w with
    | nil => exact .zero
    | cons y w => exact Byte.gx (Byte.mul (hv x (by simp)) y) (ih (fun z hz => hv z (by simp [hz])))
/-- The value of a polynomial, its lowest coefficient first. -/
def polyAt (l : List Int) (x : Int) : Int := l.foldr (fun c v => gx (mul v x) c) 0
theorem polyAt_byte {l : List Int} (hl : Bytes l) {x : Int} (hx : Byte x) : Byte (polyAt l x) := by
  induction l with
  | nil => exact .zero
  | cons c l ih => exact Byte.gx (Byte.mul (ih (fun z hz => hl z (by simp [hz]))) x) (hl c (by simp))
theorem Bytes.nil : Bytes [] := by intro x hx; simp at hx
theorem Bytes.append {v w : List Int} (hv : Bytes v) (hw : Bytes w) : Bytes (v ++ w) := by
  intro x hx
  rcases List.mem_append.1 hx with h | h
  · exact hv x h
  · exact hw x h
theorem Bytes.one {x : Int} (hx : Byte x) : Bytes [x] := by intro y hy; simp at hy; subst hy; exact hx
theorem Bytes.cons {x : Int} {l : List Int} (hx : Byte x) (hl : Bytes l) : Bytes (x :: l) := by
  intro y hy
  rcases List.mem_cons.1 hy with rfl | h
  · exact hx
  · exact hl y h
theorem Bytes.drop {l : List Int} (h : Bytes l) (n : Nat) : Bytes (l.drop n) := fun x hx => h x (List.mem_of_mem_drop hx)
theorem Bytes.take {l : List Int} (h : Bytes l) (n : Nat) : Bytes (l.take n) := fun x hx => h x (List.mem_of_mem_take hx)
theorem drop_cons {α : Type} {l : List α} {i : Nat} (h : i < l.length) : l.drop i = l[i] :: l.drop (i + 1) := List.drop_eq_getElem_cons h
/-! ### Codes' sizes -/
abbrev GoodMsr (n k : Int) : Prop := (2 ≤ k ∧ k ≤ 4) ∧ 2 * k - 1 ≤ n ∧ n ≤ 14
abbrev GoodLocal (g e m : Int) : Prop := ((1 ≤ g ∧ g ≤ 4) ∧ 1 ≤ e ∧ e ≤ 4) ∧ g * e ≤ 8 ∧ 1 ≤ m ∧ m ≤ 4
theorem small_mul {g e : Int} (h : (1 ≤ g ∧ g ≤ 4) ∧ 1 ≤ e ∧ e ≤ 4) : wrap64 (g * e) = g * e ∧ 1 ≤ g * e ∧ g * e ≤ 16 := by
  obtain ⟨⟨h1, h2⟩, h3, h4⟩ := h
  have : g = 1 ∨ g = 2 ∨ g = 3 ∨ g = 4 := by omega
  rcases this with rfl | rfl | rfl | rfl <;> (unfold wrap64; omega)
end Go.Proofs.Ytolpnmijbhbdjaa.Kit
