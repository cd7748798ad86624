/- More words for the printed functions: sums of products, products of matrices; no program stands here. -/
import Derived.Test.YteflgifmdojahaaKit2
namespace Go.Proofs.Yteflgifmdojahaa.Kit
open Go.RowKit Go.Proofs.YteflgifmdojahaaW.PrintWords Go.Proofs.YteflgifmdojahaaW.PrintLast Go.Proofs.Yteflgifmdojahaa.Gf
set_option linter.unusedVariables false
set_option linter.unusedSimpArgs false
theorem dotV_snoc (v w : List Int) (x y : Int) (hv : Bytes v) (hx : Byte x) (hl : v.length = w.length) : dotV (v ++ [x]) (w ++ [y]) = gx (dotV v w) (mul x y) := by
  induction v generalizing w with
  | nil =>
    cases w with
    | nil =>
      show gx (mul x y) 0 = gx 0 (mul x y)
      rw [gx_zero (Byte.mul hx y), zero_gx (Byte.mul hx y)]
    | cons b w => simp at hl
  | cons a v ih =>
    cases w with
    | nil => simp at hl
    | cons b w =>
      show gx (mul a b) (dotV (v ++ [x]) (w ++ [y])) = gx (gx (mul a b) (dotV v w)) (mul x y)
      rw [ih w (fun z hz => hv z (by simp [hz])) (by simpa using hl), gx_assoc]
theorem dotV_range (f g : Nat → Int) : ∀ n, (∀ k, k < n → Byte (f k)) → dotV ((List.range n).map f) ((List.range n).map g) = sumOver (fun k => mul (f k) (g k)) n
  | 0, _ => rfl
  | n + 1, h => by
    rw [List.range_succ, List.map_append, List.map_append]
    show dotV (_ ++ [f n]) (_ ++ [g n]) = _
    have hb : Bytes ((List.range n).map f) := by
      intro z hz
      simp only [List.mem_map] at hz
      obtain ⟨k, hk, rfl⟩ := hz
      have : k < n := by simpa using hk
      exact h k (by omega)
    rw [dotV_snoc _ _ _ _ hb (h n (by omega)) (by simp), dotV_range f g n (fun k hk => h k (by omega))]
    rfl
/-- Rows of bytes. -/
def matBytes (l : List (List Int)) : Prop := ∀ r ∈ l, Bytes r
theorem matBytes_row {l : List (List Int)} (h : matBytes l) (i : Nat) : Bytes (l.getD i []) := by
  by_cases hi : i < l.length
  · have e : l.getD i [] = l[i] := by simp [List.getD, hi]
    rw [e]; exact h _ (List.getElem_mem hi)
  · have e : l.getD i [] = [] := by simp [List.getD, hi]
    rw [e]; exact Bytes.nil
theorem bytes_getD {l : List Int} (h : Bytes l) (i : Nat) : Byte (l.getD i 0) := by
  by_cases hi : i < l.length
  · have e : l.getD i 0 = l[i] := by simp [List.getD, hi]
    rw [e]; exact h _ (List.getElem_mem hi)
  · have e : l.getD i 0 = 0 := by simp [List.getD, hi]
    rw [e]; exact Byte.zero
theorem matBytes_get {l : List (List Int)} (h : matBytes l) (i j : Nat) : Byte ((l.getD i []).getD j 0) := bytes_getD (matBytes_row h i) j
theorem tab_bytes {n m : Nat} {f : Nat → Nat → Int} (h : ∀ i, i < n → ∀ j, j < m → Byte (f i j)) : matBytes (tab n m f) := by
  intro r hr
  simp only [tab, List.mem_map] at hr
  obtain ⟨i, hi, rfl⟩ := hr
  intro x hx
  simp only [List.mem_map] at hx
  obtain ⟨j, hj, rfl⟩ := hx
  exact h i (by simpa using hi) j (by simpa using hj)
theorem row_self {l : List Int} {n : Nat} (h : l.length = n) : l = (List.range n).map fun j => l.getD j 0 := by
  apply List.ext_getElem
  · simp [h]
  · intro j h1 h2
    simp [List.getD, h1]
/-- One place of a product, over the first p places. -/
def prodAt (a b : List (List Int)) (i j p : Nat) : Int := sumOver (fun k => mul ((a.getD i []).getD k 0) ((b.getD k []).getD j 0)) p
theorem prodAt_byte {a b : List (List Int)} (ha : matBytes a) (i j p : Nat) : Byte (prodAt a b i j p) := sumOver_byte p fun k _ => Byte.mul (matBytes_get ha i k) _
/-- The product of matrices. -/
def prodM (a b : List (List Int)) : List (List Int) := tab a.length (b.getD 0 []).length fun i j => prodAt a b i j b.length
theorem prodM_dot {a b : List (List Int)} (ha : matBytes a) {i j : Nat} (hi : (a.getD i []).length = b.length) : dotV (a.getD i []) ((List.range b.length).map fun k => (b.getD k []).getD j 0) = prodAt a b i j b.length := by
  have e := dotV_range (fun k => (a.getD i []).getD k 0) (fun k => (b.getD k []).getD j 0) b.length (fun k _ => matBytes_get ha i k)
  rw [← row_self hi] at e
  exact e
/-- Rows, told place by place up to one place, zero behind it. -/
def filPart (n m : Nat) (f : Nat → Nat → Int) (i j : Nat) : List (List Int) := tab n m fun a b => if a < i ∨ a = i ∧ b < j then f a b else 0
theorem filPart_zero (n m : Nat) (f : Nat → Nat → Int) : blankM n m = filPart n m f 0 0 := by
  rw [tab_blank]
  apply tab_congr
  intro a ha b hb
  rw [if_neg (by omega)]
theorem filPart_all (n m : Nat) (f : Nat → Nat → Int) : filPart n m f n 0 = tab n m f := by
  apply tab_congr
  intro a ha b hb
  rw [if_pos (by omega)]
theorem filPart_next (n m : Nat) (f : Nat → Nat → Int) (i : Nat) : filPart n m f i m = filPart n m f (i + 1) 0 := by
  apply tab_congr
  intro a ha b hb
  by_cases h : a < i ∨ a = i ∧ b < m
  · rw [if_pos h, if_pos (by omega)]
  · rw [if_neg h, if_neg (by omega)]
theorem filPart_set {n m : Nat} (f : Nat → Nat → Int) {i j : Nat} (hi : i < n) : (filPart n m f i j).set i (((filPart n m f i j).getD i []).set j (f i j)) = filPart n m f i (j + 1) := by
  unfold filPart
  rw [tab_set hi]
  apply tab_congr
  intro a ha b hb
  by_cases h : a = i ∧ b = j
  · obtain ⟨rfl, rfl⟩ := h
    rw [if_pos ⟨rfl, rfl⟩, if_pos (by omega)]
  · rw [if_neg h]
    by_cases h2 : a < i ∨ a = i ∧ b < j
    · rw [if_pos h2, if_pos (by omega)]
    · rw [if_neg h2, if_neg (by omega)]
theorem filPart_length (n m : Nat) (f : Nat → Nat → Int) (i j : Nat) : (filPart n m f i j).length = n := tab_length _ _ _
theorem filPart_row {n m : Nat} {f : Nat → Nat → Int} {i j a : Nat} (h : a < n) : ((filPart n m f i j).getD a []).length = m := tab_getD_length h
end Go.Proofs.Yteflgifmdojahaa.Kit
