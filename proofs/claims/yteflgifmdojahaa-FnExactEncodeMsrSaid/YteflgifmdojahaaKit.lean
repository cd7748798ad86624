/- Small words for printed functions: what is told with rounds enough (Ev), and lists of numbers; no program stands here. -/
import Derived.Test.YteflgifmdojahaaWMore
import Derived.Test.YteflgifmdojahaaGf
namespace Go.Proofs.Yteflgifmdojahaa.Kit
open Go.RowKit Go.Proofs.YteflgifmdojahaaW.PrintWords Go.Proofs.YteflgifmdojahaaW.PrintLast Go.Proofs.Yteflgifmdojahaa.Gf
set_option linter.unusedVariables false
set_option linter.unusedSimpArgs false

section
variable {α β : Type} {g h : Nat → Option α} {r r' : α} {c : Prop} [Decidable c]
theorem ev_pos (hc : c) (e : Ev g r) : Ev (fun k => if c then g k else h k) r := by simp only [if_pos hc]; exact e
theorem ev_neg (hc : ¬ c) (e : Ev h r) : Ev (fun k => if c then g k else h k) r := by simp only [if_neg hc]; exact e
theorem ev_now (e : r = r') : Ev (fun _ => some r) r' := by subst e; exact Ev.now r
theorem ev_eq (e : Ev g r) (he : r = r') : Ev g r' := he ▸ e
theorem ev_bind {g : Nat → Option α} {f : Nat → α → Option β} {a : α} {r : β} (h : Ev g a) (k : Ev (fun n => f n a) r) : Ev (fun n => (g n).bind (f n)) r := Ev.bind h k
theorem ev_some {f : α → Option β} {a : α} {r : β} (h : f a = some r) : Ev (fun _ => (some a).bind f) r := by simp only [Option.bind_some, h]; exact Ev.now r
end
/-- What a list holds at a place. -/
theorem rd_nat (xs : List Int) (i : Nat) : rd xs (i : Int) = xs.getD i 0 := by unfold rd; simp
theorem rd_get {xs : List Int} {i : Nat} (h : i < xs.length) : rd xs (i : Int) = xs[i] := by rw [rd_nat]; simp [List.getD, h]
theorem bytes_get {xs : List Int} (hb : Bytes xs) {i : Nat} (h : i < xs.length) : Byte xs[i] := hb _ (List.getElem_mem h)
theorem bytes_rd {xs : List Int} (hb : Bytes xs) {i : Nat} (h : i < xs.length) : Byte (rd xs (i : Int)) := by rw [rd_get h]; exact bytes_get hb h
theorem inc {i : Nat} (h : i < 4611686018427387904) : wrap64 ((i : Int) + 1) = ((i + 1 : Nat) : Int) := by unfold wrap64; omega
theorem dec {i : Nat} (h : i < 4611686018427387904) : wrap64 ((i : Int) - 1) = (i : Int) - 1 := by unfold wrap64; omega
/-- The numbers that mark a row of bytes. -/
def markB (a : Int) (n : Nat) : List Int := (List.range n).map fun i => (a + (i : Nat)) % 256
theorem markB_length (a : Int) (n : Nat) : (markB a n).length = n := by simp [markB]
theorem markB_get (a : Int) (n i : Nat) (h : i < (markB a n).length) : (markB a n)[i] = (a + (i : Nat)) % 256 := by simp [markB]
theorem take_set_succ (l : List Int) (i : Nat) (v : Int) (h : i < l.length) : (l.set i v).take (i + 1) = l.take i ++ [v] := by
  rw [List.take_succ_eq_append_getElem (by simpa using h)]
  simp [List.take_set_of_le]
theorem drop_set_succ (l : List Int) (i : Nat) (v : Int) : (l.set i v).drop (i + 1) = l.drop (i + 1) := by
  rw [List.drop_set_of_lt (by omega)]
/-- Sums of two rows. -/
def addV (v w : List Int) : List Int := List.zipWith gx v w
theorem addV_length (v w : List Int) : (addV v w).length = min v.length w.length := by simp [addV]
theorem addV_bytes {v w : List Int} (hv : Bytes v) (hw : Bytes w) : Bytes (addV v w) := by
  intro x hx
  obtain ⟨i, hi, rfl⟩ := List.getElem_of_mem hx
  simp only [addV, List.getElem_zipWith]
  simp only [addV, List.length_zipWith] at hi
  exact Byte.gx (bytes_get hv (by omega)) (bytes_get hw (by omega))
/-- A row times a byte. -/
def scale (a : Int) (v : List Int) : List Int := v.map (mul a)
theorem scale_length (a : Int) (v : List Int) : (scale a v).length = v.length := by simp [scale]
theorem scale_bytes {a : Int} (ha : Byte a) (v : List Int) : Bytes (scale a v) := by
  intro x hx
  simp only [scale, List.mem_map] at hx
  obtain ⟨y, _, rfl⟩ := hx
  exact Byte.mul ha y
/-- The sum of the products. -/
def dotV : List Int → List Int → Int
  | x :: v, y :: w => gx (mul x y) (dotV v w)
  | _, _ => 0
theorem dotV_byte {v w : List Int} (hv : Bytes v) : Byte (dotV v w) := by
  induction v generalizing w with
  | nil => exact .zero
  | cons x v ih =>
    cases w with
    | nil => exact .zero
    | cons y w => exact Byte.gx (Byte.mul (hv x (by simp)) y) (ih (fun z hz => hv z (by simp [hz])))
/-- The value of a polynomial, its lowest coefficient first. -/
def polyAt (l : List Int) (x : Int) : Int := l.foldr (fun c v => gx (mul v x) c) 0
theorem polyAt_byte {l : List Int} (hl : Bytes l) {x : Int} (hx : Byte x) : Byte (polyAt l x) := by
  induction l with
  | nil => exact .zero
  | cons c l ih => exact Byte.gx (Byte.mul (ih (fun z hz => hl z (by simp [hz]))) x) (hl c (by simp))
theorem _root_.Go.Proofs.Yteflgifmdojahaa.Gf.Bytes.nil : Bytes [] := by intro x hx; simp at hx
theorem _root_.Go.Proofs.Yteflgifmdojahaa.Gf.Bytes.append {v w : List Int} (hv : Bytes v) (hw : Bytes w) : Bytes (v ++ w) := by
  intro x hx
  rcases List.mem_append.1 hx with h | h
  · exact hv x h
  · exact hw x h
theorem _root_.Go.Proofs.Yteflgifmdojahaa.Gf.Bytes.one {x : Int} (hx : Byte x) : Bytes [x] := by intro y hy; simp at hy; subst hy; exact hx
theorem _root_.Go.Proofs.Yteflgifmdojahaa.Gf.Bytes.cons {x : Int} {l : List Int} (hx : Byte x) (hl : Bytes l) : Bytes (x :: l) := by
  intro y hy
  rcases List.mem_cons.1 hy with rfl | h
  · exact hx
  · exact hl y h
theorem _root_.Go.Proofs.Yteflgifmdojahaa.Gf.Bytes.drop {l : List Int} (h : Bytes l) (n : Nat) : Bytes (l.drop n) := fun x hx => h x (List.mem_of_mem_drop hx)
theorem _root_.Go.Proofs.Yteflgifmdojahaa.Gf.Bytes.take {l : List Int} (h : Bytes l) (n : Nat) : Bytes (l.take n) := fun x hx => h x (List.mem_of_mem_take hx)
theorem drop_cons {α : Type} {l : List α} {i : Nat} (h : i < l.length) : l.drop i = l[i] :: l.drop (i + 1) := List.drop_eq_getElem_cons h
/-! ### Codes' sizes -/
abbrev GoodMsr (n k : Int) : Prop := (2 ≤ k ∧ k ≤ 4) ∧ 2 * k - 1 ≤ n ∧ n ≤ 14
abbrev GoodLocal (g e m : Int) : Prop := ((1 ≤ g ∧ g ≤ 4) ∧ 1 ≤ e ∧ e ≤ 4) ∧ g * e ≤ 8 ∧ 1 ≤ m ∧ m ≤ 4
theorem small_mul {g e : Int} (h : (1 ≤ g ∧ g ≤ 4) ∧ 1 ≤ e ∧ e ≤ 4) : wrap64 (g * e) = g * e ∧ 1 ≤ g * e ∧ g * e ≤ 16 := by
  obtain ⟨⟨h1, h2⟩, h3, h4⟩ := h
  have : g = 1 ∨ g = 2 ∨ g = 3 ∨ g = 4 := by omega
  rcases this with rfl | rfl | rfl | rfl <;> (unfold wrap64; omega)
/-- The group of a shard, -1 for none. -/
def groupOf (g e no : Int) : Int := if 0 ≤ no ∧ no ≤ g * e - 1 then no / e else if g * e ≤ no ∧ no ≤ g * e + g - 1 then no - g * e else -1
theorem groupOf_neg {g e m : Int} (h : GoodLocal g e m) (no : Int) : groupOf g e no < 0 ↔ ¬ (0 ≤ no ∧ no ≤ g * e + g - 1) := by
  have hm := small_mul h.1
  obtain ⟨⟨⟨hg1, hg2⟩, he1, he2⟩, h8, _⟩ := h
  unfold groupOf
  split
  · rename_i c
    have : 0 ≤ no / e := Int.ediv_nonneg c.1 (by omega)
    omega
  · split <;> omega
def groupVal (g e m no : Int) : Int × Bool := if GoodLocal g e m ∧ 0 ≤ no ∧ no ≤ g * e + g - 1 then (groupOf g e no, true) else (0, false)
/-- A node's number, its powers, its row. -/
def nodeX (j : Nat) : Int := pow 3 (j + 1)
theorem byte3 : Byte 3 := ⟨by decide, by decide⟩
theorem nodeX_byte (j : Nat) : Byte (nodeX j) := Byte.pow byte3 _
def shortR (a j : Nat) : List Int := (List.range a).map fun i => pow (nodeX j) i
theorem shortR_length (a j : Nat) : (shortR a j).length = a := by simp [shortR]
theorem shortR_bytes (a j : Nat) : Bytes (shortR a j) := by
  intro x hx
  simp only [shortR, List.mem_map] at hx
  obtain ⟨i, _, rfl⟩ := hx
  exact Byte.pow (nodeX_byte j) i
theorem shortR_succ (a j i : Nat) (h : i < a) : (shortR a j).take (i + 1) = (shortR a j).take i ++ [pow (nodeX j) i] := by
  rw [List.take_succ_eq_append_getElem (by rw [shortR_length]; exact h)]
  simp [shortR]
def msrRow (a j : Nat) : List Int := shortR a j ++ scale (pow (nodeX j) a) (shortR a j)
theorem msrRow_length (a j : Nat) : (msrRow a j).length = 2 * a := by simp [msrRow, shortR_length, scale_length]; omega
theorem msrRow_bytes (a j : Nat) : Bytes (msrRow a j) := (shortR_bytes a j).append (scale_bytes (Byte.pow (nodeX_byte j) a) _)
theorem GoodMsr_nat {n k : Int} (h : GoodMsr n k) : ∃ a m : Nat, k = (a + 1 : Nat) ∧ n = (m : Nat) ∧ 1 ≤ a ∧ a ≤ 3 ∧ 2 * a + 1 ≤ m ∧ m ≤ 14 := ⟨k.toNat - 1, n.toNat, by omega, by omega, by omega, by omega, by omega, by omega⟩
/-- The numbers that mark a row of whole numbers. -/
def markI (a : Int) (n : Nat) : List Int := (List.range n).map fun i => a + (i : Nat)
theorem markI_length (a : Int) (n : Nat) : (markI a n).length = n := by simp [markI]
theorem markI_get (a : Int) (n i : Nat) (h : i < (markI a n).length) : (markI a n)[i] = a + (i : Nat) := by simp [markI]
/-- A product over all but one. -/
def prodBut (x : Int) (X : Nat → Int) (i : Nat) : Nat → Int
  | 0 => 1
  | n + 1 => if n = i then prodBut x X i n else mul (prodBut x X i n) (gx x (X n))
theorem prodBut_byte {x : Int} {X : Nat → Int} (hx : Byte x) (i : Nat) : ∀ n, (∀ j, j < n → Byte (X j)) → Byte (prodBut x X i n)
  | 0, _ => .one
  | n + 1, h => by
    have ih := prodBut_byte hx i n (fun j hj => h j (by omega))
    unfold prodBut
    split
    · exact ih
    · exact Byte.mul ih _
def partBut (y x : Int) (X : Nat → Int) (i : Nat) : Nat → Int
  | 0 => y
  | n + 1 => if n = i then partBut y x X i n else mul (partBut y x X i n) (mul (gx x (X n)) (inv (gx (X i) (X n))))
theorem partBut_eq {y x : Int} {X : Nat → Int} (hy : Byte y) (hx : Byte x) (i : Nat) (hi : Byte (X i)) : ∀ n, (∀ j, j < n → Byte (X j)) → partBut y x X i n = mul y (mul (prodBut x X i n) (inv (prodBut (X i) X i n)))
  | 0, _ => by simp [partBut, prodBut, inv_one, one_mul Byte.one, mul_one hy]
  | n + 1, h => by
    have hn := h n (by omega)
    have ih := partBut_eq hy hx i hi n (fun j hj => h j (by omega))
    have bU := prodBut_byte (X := X) hx i n (fun j hj => h j (by omega))
    have bD := prodBut_byte (X := X) hi i n (fun j hj => h j (by omega))
    unfold partBut prodBut
    by_cases e : n = i
    · rw [if_pos e, if_pos e, if_pos e]; exact ih
    · rw [if_neg e, if_neg e, if_neg e, ih]
      have bu := Byte.gx hx hn
      have bd := Byte.gx hi hn
      generalize prodBut x X i n = U at bU
      generalize prodBut (X i) X i n = D at bD
      generalize gx x (X n) = u at bu
      generalize gx (X i) (X n) = d at bd
      rw [inv_mul bD bd]
      have iD := bD.inv
      have iD' := bd.inv
      rw [mul_assoc hy (Byte.mul bU _) (Byte.mul bu _), mul_assoc bU iD (Byte.mul bu _), mul_left_comm iD bu iD', mul_assoc bU bu (Byte.mul iD _)]
def sumOver (f : Nat → Int) : Nat → Int
  | 0 => 0
  | n + 1 => gx (sumOver f n) (f n)
theorem sumOver_byte {f : Nat → Int} : ∀ n, (∀ j, j < n → Byte (f j)) → Byte (sumOver f n)
  | 0, _ => .zero
  | n + 1, h => Byte.gx (sumOver_byte n (fun j hj => h j (by omega))) (h n (by omega))
theorem sumOver_congr {f g : Nat → Int} : ∀ n, (∀ j, j < n → f j = g j) → sumOver f n = sumOver g n
  | 0, _ => rfl
  | n + 1, h => by unfold sumOver; rw [sumOver_congr n (fun j hj => h j (by omega)), h n (by omega)]
/-- Rows marked, one behind the other. -/
def markSS : Int → List (List Int) → List (List Int)
  | _, [] => []
  | a, l :: ls => markB a l.length :: markSS (a + (l.length : Nat)) ls
def totSS : List (List Int) → Nat
  | [] => 0
  | l :: ls => l.length + totSS ls
theorem totSS_append (a b : List (List Int)) : totSS (a ++ b) = totSS a + totSS b := by
  induction a with
  | nil => simp [totSS]
  | cons x a ih => simp [totSS, ih]; omega
theorem markSS_append (a : Int) (l m : List (List Int)) : markSS a (l ++ m) = markSS a l ++ markSS (a + (totSS l : Nat)) m := by
  induction l generalizing a with
  | nil => simp [markSS, totSS]
  | cons x l ih => simp [markSS, totSS, ih, Int.add_assoc]
theorem markSS_length (a : Int) (l : List (List Int)) : (markSS a l).length = l.length := by
  induction l generalizing a with
  | nil => rfl
  | cons x l ih => simp [markSS, ih]
theorem totSS_markSS (a : Int) (l : List (List Int)) : totSS (markSS a l) = totSS l := by
  induction l generalizing a with
  | nil => rfl
  | cons x l ih => simp [markSS, totSS, ih, markB_length]
/-- Are the numbers from i on (n of them) above 0 and rising, and not too many? -/
def sharesOk (X : Nat → Int) (len : Nat) : Nat → Nat → Bool
  | _, 0 => decide (len ≤ 20)
  | i, n + 1 => if X i = 0 ∨ 0 < i ∧ X i ≤ X (i - 1) then false else sharesOk X len (i + 1) n
theorem sharesOk_len {X : Nat → Int} {len : Nat} : ∀ (n i : Nat), sharesOk X len i n = true → len ≤ 20
  | 0, _, h => by simpa [sharesOk] using h
  | n + 1, i, h => by
    unfold sharesOk at h
    split at h
    · cases h
    · exact sharesOk_len n (i + 1) h
/-! ### Rows of rows -/
def rowsLe (n : Nat) (R : List (List Int)) : Prop := R.length ≤ n ∧ ∀ r ∈ R, r.length ≤ n
theorem totSS_le {n : Nat} : ∀ (R : List (List Int)), (∀ r ∈ R, r.length ≤ n) → totSS R ≤ R.length * n
  | [], _ => by simp [totSS]
  | r :: R, h => by
    have h1 := h r (by simp)
    have h2 := totSS_le R (fun x hx => h x (by simp [hx]))
    simp only [totSS, List.length_cons, Nat.succ_mul]
    omega
theorem totSS_small {n : Nat} (hn : n ≤ 1048576) {R : List (List Int)} (h : rowsLe n R) : totSS R < 1152921504606846976 ∧ R.length < 1152921504606846976 := by
  have h1 := totSS_le R h.2
  have h2 : R.length * n ≤ 1048576 * 1048576 := Nat.mul_le_mul (Nat.le_trans h.1 hn) hn
  have := h.1
  omega
def blankM (n m : Nat) : List (List Int) := List.replicate n (List.replicate m 0)
def idM (n : Nat) : List (List Int) := (List.range n).map fun i => (List.replicate n 0).set i 1
theorem idM_rows (n : Nat) : rowsLe n (idM n) := by
  refine ⟨by simp [idM], fun r hr => ?_⟩
  simp only [idM, List.mem_map] at hr
  obtain ⟨i, _, rfl⟩ := hr
  simp
/-- Are rows those of a matrix: 1 to 16 of them, all of one length of 1 to 16? -/
def goodM (l : List (List Int)) : Bool := decide (1 ≤ l.length ∧ l.length ≤ 16 ∧ 1 ≤ (l.getD 0 []).length ∧ (l.getD 0 []).length ≤ 16) && !((List.range l.length).any fun i => (l.getD i []).length != (l.getD 0 []).length)
theorem goodM_iff {l : List (List Int)} (h : goodM l = true) : (1 ≤ l.length ∧ l.length ≤ 16) ∧ (1 ≤ (l.getD 0 []).length ∧ (l.getD 0 []).length ≤ 16) ∧ ∀ i, i < l.length → (l.getD i []).length = (l.getD 0 []).length := by
  unfold goodM at h
  rw [Bool.and_eq_true, decide_eq_true_eq] at h
  obtain ⟨h1, h2⟩ := h
  refine ⟨⟨h1.1, h1.2.1⟩, h1.2.2, fun i hi => ?_⟩
  have h3 : ((List.range l.length).any fun i => (l.getD i []).length != (l.getD 0 []).length) = false := by simpa using h2
  rw [List.any_eq_false] at h3
  have := h3 i (by simpa using hi)
  simpa using this
/-- Rows told place by place. -/
def tab (n m : Nat) (f : Nat → Nat → Int) : List (List Int) := (List.range n).map fun i => (List.range m).map (f i)
theorem tab_length (n m : Nat) (f : Nat → Nat → Int) : (tab n m f).length = n := by simp [tab]
theorem tab_getD {n m : Nat} {f : Nat → Nat → Int} {i : Nat} (h : i < n) : (tab n m f).getD i [] = (List.range m).map (f i) := by simp [tab, List.getD, h]
theorem tab_getD_length {n m : Nat} {f : Nat → Nat → Int} {i : Nat} (h : i < n) : ((tab n m f).getD i []).length = m := by rw [tab_getD h]; simp
theorem tab_get2 {n m : Nat} {f : Nat → Nat → Int} {i j : Nat} (h : i < n) (h2 : j < m) : ((tab n m f).getD i []).getD j 0 = f i j := by rw [tab_getD h]; simp [List.getD, h2]
theorem tab_congr {n m : Nat} {f g : Nat → Nat → Int} (h : ∀ i, i < n → ∀ j, j < m → f i j = g i j) : tab n m f = tab n m g := by
  unfold tab
  apply List.map_congr_left
  intro i hi
  apply List.map_congr_left
  intro j hj
  exact h i (by simpa using hi) j (by simpa using hj)
theorem row_set {m : Nat} {f : Nat → Int} {j : Nat} {v : Int} : ((List.range m).map f).set j v = (List.range m).map fun b => if b = j then v else f b := by
  apply List.ext_getElem
  · simp
  · intro b h1 h2
    rw [List.getElem_set]
    by_cases e : j = b
    · subst e; simp
    · rw [if_neg e]
      have e2 : ¬ b = j := fun z => e z.symm
      simp [e2]
theorem tab_set {n m : Nat} {f : Nat → Nat → Int} {i j : Nat} {v : Int} (h : i < n) : (tab n m f).set i (((tab n m f).getD i []).set j v) = tab n m fun a b => if a = i ∧ b = j then v else f a b := by
  rw [tab_getD h, row_set]
  apply List.ext_getElem
  · simp [tab]
  · intro a h1 h2
    rw [List.getElem_set]
    by_cases e : i = a
    · subst e
      simp [tab]
    · rw [if_neg e]
      have e2 : ¬ a = i := fun z => e z.symm
      simp [tab, e2]
theorem tab_set_row {n m : Nat} {f : Nat → Nat → Int} {i : Nat} {g : Nat → Int} (h : i < n) : (tab n m f).set i ((List.range m).map g) = tab n m fun a b => if a = i then g b else f a b := by
  apply List.ext_getElem
  · simp [tab]
  · intro a h1 h2
    rw [List.getElem_set]
    by_cases e : i = a
    · subst e
      simp [tab]
    · rw [if_neg e]
      have e2 : ¬ a = i := fun z => e z.symm
      simp [tab, e2]
theorem tab_blank (n m : Nat) : blankM n m = tab n m fun _ _ => 0 := by
  apply List.ext_getElem
  · simp [blankM, tab]
  · intro i h1 h2
    simp only [blankM, tab, List.getElem_replicate, List.getElem_map]
    apply List.ext_getElem
    · simp
    · intro j h3 h4; simp
theorem tab_rows {n m k : Nat} (f : Nat → Nat → Int) (h : n ≤ k) (h2 : m ≤ k) : rowsLe k (tab n m f) := by
  refine ⟨by rw [tab_length]; exact h, fun r hr => ?_⟩
  simp only [tab, List.mem_map] at hr
  obtain ⟨i, _, rfl⟩ := hr
  simpa using h2
theorem tab_self {l : List (List Int)} {n m : Nat} (hn : l.length = n) (hm : ∀ i, i < n → (l.getD i []).length = m) : l = tab n m fun i j => (l.getD i []).getD j 0 := by
  apply List.ext_getElem
  · simp [tab, hn]
  · intro i h1 h2
    have e := hm i (by omega)
    have e1 : l.getD i [] = l[i] := by simp [List.getD, h1]
    apply List.ext_getElem
    · rw [e1] at e; simp [tab, e]
    · intro j h3 h4
      simp only [tab, List.getElem_map, List.getElem_range]
      rw [e1]
      simp [List.getD, h3]
/-- Rows and columns exchanged. -/
def trM (l : List (List Int)) : List (List Int) := tab (l.getD 0 []).length l.length fun j i => (l.getD i []).getD j 0
theorem nil_rows (n : Nat) : rowsLe n [] := ⟨by simp, by simp⟩
end Go.Proofs.Yteflgifmdojahaa.Kit
