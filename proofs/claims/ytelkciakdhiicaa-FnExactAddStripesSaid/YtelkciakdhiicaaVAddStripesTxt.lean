/- Words for texts: their bytes, their sums and products, what marks them; no program stands here. -/
import Derived.Test.YtelkciakdhiicaaVAddStripesElim
import Derived.Test.YtelkciakdhiicaaVAddStripesKitW
namespace Go.Proofs.Ytelkciakdhiicaa.Kit
open Go.RowKit Go.Proofs.YtelkciakdhiicaaW.PrintWords Go.Proofs.YtelkciakdhiicaaW.PrintLast Go.Proofs.Ytelkciakdhiicaa.Gf Go.Proofs.Ytelkciakdhiicaa.KitW
set_option linter.unusedVariables false
set_option linter.unusedSimpArgs false
theorem bytes_bytesOf (s : ByteArray) : Bytes (bytesOf s) := by
  intro x hx
  simp only [bytesOf, List.mem_map] at hx
  obtain ⟨b, _, rfl⟩ := hx
  exact ⟨by omega, by have := b.toNat_lt; omega⟩
theorem str_append (a b : List Int) : strOfNums a ++ strOfNums b = strOfNums (a ++ b) := by
  apply ByteArray.ext
  rw [ByteArray.data_append]
  unfold strOfNums
  simp
/-- A text of a list. -/
abbrev txt (l : List ByteArray) (i : Nat) : ByteArray := l.getD i ByteArray.empty
theorem rdOf_nat (l : List ByteArray) (i : Nat) : rdOf ByteArray.empty l (i : Int) = txt l i := by unfold rdOf; simp
theorem rdOf_zero (l : List ByteArray) : rdOf ByteArray.empty l 0 = txt l 0 := rdOf_nat l 0
theorem txt_get {l : List ByteArray} {i : Nat} (h : i < l.length) : txt l i = l[i] := by simp [txt, List.getD, h]
theorem txt_mem {l : List ByteArray} {i : Nat} (h : i < l.length) : txt l i ∈ l := by rw [txt_get h]; exact List.getElem_mem h
/-- How many bytes texts have. -/
def totT : List ByteArray → Nat
  | [] => 0
  | s :: l => s.size + totT l
theorem mem_totT {l : List ByteArray} {s : ByteArray} (h : s ∈ l) : s.size ≤ totT l := by
  induction l with
  | nil => simp at h
  | cons x l ih =>
    rcases List.mem_cons.1 h with rfl | h
    · simp [totT]
    · have := ih h; simp only [totT]; omega
/-- Texts that are not too many, and not too long. -/
def textsLe (n : Nat) (l : List ByteArray) : Prop := l.length ≤ n ∧ ∀ s ∈ l, s.size ≤ n
theorem textsLe_of {l : List ByteArray} (h : (l.length : Int) + (totT l : Int) ≤ 1048576) : textsLe 1048576 l := ⟨by omega, fun s hs => by have := mem_totT hs; omega⟩
theorem textsLe.txt {n : Nat} {l : List ByteArray} (h : textsLe n l) (i : Nat) : (txt l i).size ≤ n := by
  by_cases hi : i < l.length
  · exact h.2 _ (txt_mem hi)
  · simp [Kit.txt, List.getD, hi]
theorem textsLe.append {n m : Nat} {a b : List ByteArray} (ha : textsLe n a) (hb : textsLe m b) : textsLe (n + m) (a ++ b) := by
  refine ⟨by have := ha.1; have := hb.1; simp; omega, fun s hs => ?_⟩
  rcases List.mem_append.1 hs with h | h
  · have := ha.2 s h; omega
  · have := hb.2 s h; omega
/-- A text too long, or of another length than the first one. -/
def badT (l : List ByteArray) (j : Nat) : Bool := decide (40 < (txt l j).size) || (txt l j).size != (txt l 0).size
theorem textsOk_bad (l : List ByteArray) : textsOk l = !((List.range l.length).any fun j => badT l j) := rfl
theorem textsOk_all {l : List ByteArray} (h : textsOk l = true) : ∀ j, j < l.length → (txt l j).size = (txt l 0).size ∧ (txt l j).size ≤ 40 := by
  intro j hj
  rw [textsOk_bad] at h
  have h3 : ((List.range l.length).any fun j => badT l j) = false := by simpa using h
  rw [List.any_eq_false] at h3
  have h4 : badT l j = false := by
    have := h3 j (by simpa using hj)
    simpa using this
  unfold badT at h4
  rw [Bool.or_eq_false_iff, bne_eq_false_iff_eq] at h4
  have h5 := of_decide_eq_false h4.1
  exact ⟨h4.2, by omega⟩
theorem bt_getD (s : ByteArray) (j : Nat) : bt s (j : Int) = (bytesOf s).getD j 0 := by rw [← rd_bytesOf, rd_nat]
theorem bt_byte (s : ByteArray) (i : Int) : Byte (bt s i) := by have := bt_range s i; exact ⟨this.1, by omega⟩
/-- The digits of a number, behind a letter. -/
def mtl : Nat → Nat → List Int → List Int
  | 0, _, s => 109 :: s
  | f + 1, x, s => if x = 0 then 109 :: s else mtl f (x / 10) ((48 + (x % 10 : Nat) : Int) :: s)
def mtx (a : Int) : ByteArray := if a ≤ 0 then strOfNums [109, 48] else strOfNums (mtl 20 a.toNat [])
def markTS (a : Int) (n : Nat) : List ByteArray := (List.range n).map fun i => mtx (a + (i : Nat))
theorem markTS_length (a : Int) (n : Nat) : (markTS a n).length = n := by simp [markTS]
theorem markTS_get (a : Int) (n i : Nat) (h : i < n) : txt (markTS a n) i = mtx (a + (i : Nat)) := by simp [markTS, txt, List.getD, h]
/-- Are texts those of a stripe? -/
def goodStripe (D P : List ByteArray) : Bool := decide ((1 ≤ (D.length : Int) ∧ (D.length : Int) ≤ 16) ∧ 1 ≤ (P.length : Int) ∧ (P.length : Int) ≤ 4) && textsOk (D ++ P)
theorem txt_left {a b : List ByteArray} {i : Nat} (h : i < a.length) : txt (a ++ b) i = txt a i := by
  rw [txt_get h, txt_get (by rw [List.length_append]; omega), List.getElem_append_left h]
theorem txt_right {a b : List ByteArray} {i : Nat} : txt (a ++ b) (a.length + i) = txt b i := by
  unfold txt
  rw [List.getD_eq_getElem?_getD, List.getD_eq_getElem?_getD, List.getElem?_append_right (by omega), Nat.add_sub_cancel_left]
theorem goodStripe_iff {D P : List ByteArray} (h : goodStripe D P = true) : (1 ≤ D.length ∧ D.length ≤ 16) ∧ (1 ≤ P.length ∧ P.length ≤ 4) ∧ (∀ j, j < D.length → (txt D j).size = (txt D 0).size ∧ (txt D j).size ≤ 40) ∧ ∀ j, j < P.length → (txt P j).size = (txt D 0).size ∧ (txt P j).size ≤ 40 := by
  unfold goodStripe at h
  rw [Bool.and_eq_true, decide_eq_true_eq] at h
  obtain ⟨⟨h1, h2⟩, h3⟩ := h
  have hs := textsOk_all h3
  have hl : (D ++ P).length = D.length + P.length := List.length_append
  have e0 : txt (D ++ P) 0 = txt D 0 := txt_left (by omega)
  refine ⟨by omega, by omega, fun j hj => ?_, fun j hj => ?_⟩
  · have := hs j (by omega)
    rwa [txt_left hj, e0] at this
  · have := hs (D.length + j) (by omega)
    rwa [txt_right, e0] at this
theorem scale_one {v : List Int} (h : Bytes v) : scale 1 v = v := by
  unfold scale
  have : ∀ x ∈ v, mul 1 x = id x := fun x hx => one_mul (h x hx)
  rw [List.map_congr_left this, List.map_id]
/-- The sum of two texts, with a factor. -/
def plusT (a : ByteArray) (f : Int) (b : ByteArray) : ByteArray := strOfNums (addV (bytesOf a) (scale f (bytesOf b)))
/-- The sums of the texts of two lists. -/
def sumT (a b : List ByteArray) : List ByteArray := (List.range a.length).map fun i => plusT (txt a i) 1 (txt b i)
theorem sumT_length (a b : List ByteArray) : (sumT a b).length = a.length := by simp [sumT]
theorem sumT_get (a b : List ByteArray) {i : Nat} (h : i < a.length) : txt (sumT a b) i = plusT (txt a i) 1 (txt b i) := by simp [sumT, txt, List.getD, h]
theorem sumT_succ (a b : List ByteArray) {i : Nat} (h : i < a.length) : (sumT a b).take (i + 1) = (sumT a b).take i ++ [plusT (txt a i) 1 (txt b i)] := by
  rw [List.take_succ_eq_append_getElem (by rw [sumT_length]; exact h)]
  simp [sumT]
/-- A list of texts, the first up to a place, the second from there on. -/
theorem halfT_get {v b : List ByteArray} (h : v.length = b.length) {j : Nat} (hj : j < b.length) : txt (v.take j ++ b.drop j) j = txt b j := by
  have hl : (v.take j).length = j := by rw [List.length_take]; omega
  unfold txt
  rw [List.getD_eq_getElem?_getD, List.getElem?_append_right (by omega), hl, Nat.sub_self, List.getElem?_drop, Nat.add_zero, List.getD_eq_getElem?_getD]
theorem halfT_set {v b : List ByteArray} (h : v.length = b.length) {j : Nat} (hj : j < b.length) : (v.take j ++ b.drop j).set j (txt v j) = v.take (j + 1) ++ b.drop (j + 1) := by
  have hl : (v.take j).length = j := by rw [List.length_take]; omega
  have hv : j < v.length := by omega
  rw [List.set_append_right _ _ (by omega), hl, Nat.sub_self, List.drop_eq_getElem_cons hj, List.set_cons_zero, List.take_succ_eq_append_getElem hv, txt_get hv, List.append_assoc]
  rfl
theorem halfT_length {v b : List ByteArray} (h : v.length = b.length) {j : Nat} (hj : j ≤ b.length) : (v.take j ++ b.drop j).length = b.length := by
  rw [List.length_append, List.length_take, List.length_drop]; omega
theorem take_set_T (l : List ByteArray) (i : Nat) (v : ByteArray) (h : i < l.length) : (l.set i v).take (i + 1) = l.take i ++ [v] := by
  rw [List.take_succ_eq_append_getElem (by simpa using h)]
  simp [List.take_set_of_le]
end Go.Proofs.Ytelkciakdhiicaa.Kit
