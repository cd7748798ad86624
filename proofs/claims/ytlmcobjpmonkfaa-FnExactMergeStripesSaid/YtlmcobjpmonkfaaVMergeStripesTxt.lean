/- Words for texts: their bytes, their sums and products, what marks them; no program stands here. -/
import Derived.Test.YtlmcobjpmonkfaaVMergeStripesElim
import Derived.Test.YtlmcobjpmonkfaaVMergeStripesKitW
namespace Go.Proofs.Ytlmcobjpmonkfaa.Kit
open Go.RowKit Go.Proofs.YtlmcobjpmonkfaaW.PrintWords Go.Proofs.YtlmcobjpmonkfaaW.PrintLast Go.Proofs.Ytlmcobjpmonkfaa.Gf Go.Proofs.Ytlmcobjpmonkfaa.KitW
set_option linter.unusedVariables false
set_option linter.unusedSimpArgs false
theorem bytes_bytesOf (s : ByteArray) : Bytes (bytesOf s) := by
  intro x hx
  simp only [bytesOf, List.mem_map] at hx
  obtain ⟨b, _, rfl⟩ := hx
  exact ⟨by omega, by have := b.toNat_lt; omega⟩
theorem bytesOf_str {l : List Int} (h : Bytes l) : bytesOf (strOfNums l) = l := by
  unfold bytesOf
  rw [strOfNums_data, List.map_map]
  have : ∀ x ∈ l, ((fun b : UInt8 => (b.toNat : Int)) ∘ fun n : Int => UInt8.ofNat n.toNat) x = x := by
    intro x hx
    have hb := h x hx
    unfold Byte at hb
    simp only [Function.comp_apply, UInt8.toNat_ofNat']
    omega
  rw [List.map_congr_left this, List.map_id']
theorem str_append (a b : List Int) : strOfNums a ++ strOfNums b = strOfNums (a ++ b) := by
  apply ByteArray.ext
  rw [ByteArray.data_append]
  unfold strOfNums
  simp
/-- A text of a list. -/
abbrev txt (l : List ByteArray) (i : Nat) : ByteArray := l.getD i ByteArray.empty
theorem rdOf_nat (l : List ByteArray) (i : Nat) : rdOf ByteArray.empty l (i : Int) = txt l i := by unfold rdOf; simp
theorem rdOf_zero (l : List ByteArray) : rdOf ByteArray.empty l 0 = txt l 0 := rdOf_nat l 0
theorem txt_get {l : List ByteArray} {i : Nat} (h : i < l.length) : txt l i = l[i] := by simp [txt, List.getD, h]
theorem txt_mem {l : List ByteArray} {i : Nat} (h : i < l.length) : txt l i ∈ l := by rw [txt_get h]; exact List.getElem_mem h
/-- How many bytes texts have. -/
def totT : List ByteArray → Nat
  | [] => 0
  | s :: l => s.size + totT l
theorem mem_totT {l : List ByteArray} {s : ByteArray} (h : s ∈ l) : s.size ≤ totT l := by
  induction l with
  | nil => simp at h
  | cons x l ih =>
    rcases List.mem_cons.1 h with rfl | h
    · simp [totT]
    · have := ih h; simp only [totT]; omega
/-- Texts that are not too many, and not too long. -/
def textsLe (n : Nat) (l : List ByteArray) : Prop := l.length ≤ n ∧ ∀ s ∈ l, s.size ≤ n
theorem textsLe_of {l : List ByteArray} (h : (l.length : Int) + (totT l : Int) ≤ 1048576) : textsLe 1048576 l := ⟨by omega, fun s hs => by have := mem_totT hs; omega⟩
theorem textsLe.txt {n : Nat} {l : List ByteArray} (h : textsLe n l) (i : Nat) : (txt l i).size ≤ n := by
  by_cases hi : i < l.length
  · exact h.2 _ (txt_mem hi)
  · simp [Kit.txt, List.getD, hi]
theorem textsLe.append {n m : Nat} {a b : List ByteArray} (ha : textsLe n a) (hb : textsLe m b) : textsLe (n + m) (a ++ b) := by
  refine ⟨by have := ha.1; have := hb.1; simp; omega, fun s hs => ?_⟩
  rcases List.mem_append.1 hs with h | h
  · have := ha.2 s h; omega
  · have := hb.2 s h; omega
/-- A text too long, or of another length than the first one. -/
def badT (l : List ByteArray) (j : Nat) : Bool := decide (40 < (txt l j).size) || (txt l j).size != (txt l 0).size
theorem textsOk_bad (l : List ByteArray) : textsOk l = !((List.range l.length).any fun j => badT l j) := rfl
theorem textsOk_all {l : List ByteArray} (h : textsOk l = true) : ∀ j, j < l.length → (txt l j).size = (txt l 0).size ∧ (txt l j).size ≤ 40 := by
  intro j hj
  rw [textsOk_bad] at h
  have h3 : ((List.range l.length).any fun j => badT l j) = false := by simpa using h
  rw [List.any_eq_false] at h3
  have h4 : badT l j = false := by
    have := h3 j (by simpa using hj)
    simpa using this
  unfold badT at h4
  rw [Bool.or_eq_false_iff, bne_eq_false_iff_eq] at h4
  have h5 := of_decide_eq_false h4.1
  exact ⟨h4.2, by omega⟩
theorem bt_getD (s : ByteArray) (j : Nat) : bt s (j : Int) = (bytesOf s).getD j 0 := by rw [← rd_bytesOf, rd_nat]
theorem bt_byte (s : ByteArray) (i : Int) : Byte (bt s i) := by have := bt_range s i; exact ⟨this.1, by omega⟩
/-- The digits of a number, behind a letter. -/
def mtl : Nat → Nat → List Int → List Int
  | 0, _, s => 109 :: s
  | f + 1, x, s => if x = 0 then 109 :: s else mtl f (x / 10) ((48 + (x % 10 : Nat) : Int) :: s)
def mtx (a : Int) : ByteArray := if a ≤ 0 then strOfNums [109, 48] else strOfNums (mtl 20 a.toNat [])
def markTS (a : Int) (n : Nat) : List ByteArray := (List.range n).map fun i => mtx (a + (i : Nat))
theorem markTS_length (a : Int) (n : Nat) : (markTS a n).length = n := by simp [markTS]
theorem markTS_get (a : Int) (n i : Nat) (h : i < n) : txt (markTS a n) i = mtx (a + (i : Nat)) := by simp [markTS, txt, List.getD, h]
/-- Are texts those of a stripe? -/
def goodStripe (D P : List ByteArray) : Bool := decide ((1 ≤ (D.length : Int) ∧ (D.length : Int) ≤ 16) ∧ 1 ≤ (P.length : Int) ∧ (P.length : Int) ≤ 4) && textsOk (D ++ P)
theorem txt_left {a b : List ByteArray} {i : Nat} (h : i < a.length) : txt (a ++ b) i = txt a i := by
  rw [txt_get h, txt_get (by rw [List.length_append]; omega), List.getElem_append_left h]
theorem txt_right {a b : List ByteArray} {i : Nat} : txt (a ++ b) (a.length + i) = txt b i := by
  unfold txt
  rw [List.getD_eq_getElem?_getD, List.getD_eq_getElem?_getD, List.getElem?_append_right (by omega), Nat.add_sub_cancel_left]
theorem goodStripe_iff {D P : List ByteArray} (h : goodStripe D P = true) : (1 ≤ D.length ∧ D.length ≤ 16) ∧ (1 ≤ P.length ∧ P.length ≤ 4) ∧ (∀ j, j < D.length → (txt D j).size = (txt D 0).size ∧ (txt D j).size ≤ 40) ∧ ∀ j, j < P.length → (txt P j).size = (txt D 0).size ∧ (txt P j).size ≤ 40 := by
  unfold goodStripe at h
  rw [Bool.and_eq_true, decide_eq_true_eq] at h
  obtain ⟨⟨h1, h2⟩, h3⟩ := h
  have hs := textsOk_all h3
  have hl : (D ++ P).length = D.length + P.length := List.length_append
  have e0 : txt (D ++ P) 0 = txt D 0 := txt_left (by omega)
  refine ⟨by omega, by omega, fun j hj => ?_, fun j hj => ?_⟩
  · have := hs j (by omega)
    rwa [txt_left hj, e0] at this
  · have := hs (D.length + j) (by omega)
    rwa [txt_right, e0] at this
def parAt (i j : Nat) : Int := pow (pow 3 i) j
/-- The sum of two texts, with a factor. -/
def plusT (a : ByteArray) (f : Int) (b : ByteArray) : ByteArray := strOfNums (addV (bytesOf a) (scale f (bytesOf b)))
theorem plusT_size (a : ByteArray) (f : Int) (b : ByteArray) : (plusT a f b).size = min a.size b.size := by
  unfold plusT
  rw [strOfNums_size, addV_length, scale_length, bytesOf_length, bytesOf_length]
def alike (D P E Q : List ByteArray) : Bool := goodStripe D P && (goodStripe E Q && (decide (P.length = Q.length) && decide ((txt D 0).size = (txt E 0).size)))
theorem alike_iff {D P E Q : List ByteArray} : alike D P E Q = true ↔ goodStripe D P = true ∧ goodStripe E Q = true ∧ P.length = Q.length ∧ (txt D 0).size = (txt E 0).size := by
  unfold alike
  rw [Bool.and_eq_true, Bool.and_eq_true, Bool.and_eq_true, decide_eq_true_eq, decide_eq_true_eq]
/-- Texts told place by place. -/
def genT (n : Nat) (g : Nat → ByteArray) : List ByteArray := (List.range n).map g
theorem genT_length (n : Nat) (g : Nat → ByteArray) : (genT n g).length = n := by simp [genT]
theorem genT_get {n : Nat} {g : Nat → ByteArray} {i : Nat} (h : i < n) : txt (genT n g) i = g i := by simp [genT, txt, List.getD, h]
theorem genT_succ {n : Nat} {g : Nat → ByteArray} {i : Nat} (h : i < n) : (genT n g).take (i + 1) = (genT n g).take i ++ [g i] := by
  rw [List.take_succ_eq_append_getElem (by rw [genT_length]; exact h)]
  simp [genT]
theorem textsOk_of {l : List ByteArray} {n : Nat} (hn : n ≤ 40) (h : ∀ j, j < l.length → (txt l j).size = n) : textsOk l = true := by
  rw [textsOk_bad]
  have : ((List.range l.length).any fun j => badT l j) = false := by
    rw [List.any_eq_false]
    intro j hj
    have hj : j < l.length := by simpa using hj
    have h1 := h j hj
    have h2 := h 0 (by omega)
    unfold badT
    rw [decide_eq_false (by omega), h1, h2]
    simp
  rw [this]; rfl
def mergeP (D P Q : List ByteArray) : List ByteArray := genT P.length fun i => plusT (txt P i) (parAt i D.length) (txt Q i)
def mergeVal (D P E Q : List ByteArray) : List ByteArray × List ByteArray × Bool := if alike D P E Q = true ∧ D.length + E.length ≤ 16 then (D ++ E, mergeP D P Q, true) else ([], [], false)
theorem mergeVal_len (D P E Q : List ByteArray) : (mergeVal D P E Q).1.length ≤ 16 ∧ (mergeVal D P E Q).2.1.length ≤ 16 := by
  unfold mergeVal
  split
  · rename_i h
    have hg := goodStripe_iff (alike_iff.1 h.1).1
    refine ⟨by show (D ++ E).length ≤ 16; rw [List.length_append]; omega, ?_⟩
    show (mergeP _ _ _).length ≤ 16
    unfold mergeP
    rw [genT_length]; omega
  · simp
theorem merge_good {D P E Q : List ByteArray} (h : alike D P E Q = true) : goodStripe (D ++ E) (mergeP D P Q) = decide (D.length + E.length ≤ 16) := by
  obtain ⟨g1, g2, hl, h0⟩ := alike_iff.1 h
  obtain ⟨a1, a2, a3, a4⟩ := goodStripe_iff g1
  obtain ⟨b1, b2, b3, b4⟩ := goodStripe_iff g2
  have hm : (mergeP D P Q).length = P.length := by unfold mergeP; rw [genT_length]
  have hz := (a3 0 (by omega)).2
  have ht : textsOk (D ++ E ++ mergeP D P Q) = true := by
    refine textsOk_of (n := (txt D 0).size) hz (fun j hj => ?_)
    rw [List.length_append, List.length_append, hm] at hj
    by_cases c1 : j < D.length
    · rw [txt_left (by rw [List.length_append]; omega), txt_left c1]; exact (a3 j c1).1
    · by_cases c2 : j < D.length + E.length
      · have e : j = D.length + (j - D.length) := by omega
        rw [txt_left (by rw [List.length_append]; omega), e, txt_right]
        have := b3 (j - D.length) (by omega)
        omega
      · have e : j = (D ++ E).length + (j - (D.length + E.length)) := by rw [List.length_append]; omega
        rw [e, txt_right]
        unfold mergeP
        rw [genT_get (by omega), plusT_size]
        have := a4 (j - (D.length + E.length)) (by omega)
        have := b4 (j - (D.length + E.length)) (by omega)
        omega
  unfold goodStripe
  rw [ht, Bool.and_true, hm, List.length_append]
  exact decide_eq_decide.2 (by omega)
theorem take_set_T (l : List ByteArray) (i : Nat) (v : ByteArray) (h : i < l.length) : (l.set i v).take (i + 1) = l.take i ++ [v] := by
  rw [List.take_succ_eq_append_getElem (by simpa using h)]
  simp [List.take_set_of_le]
end Go.Proofs.Ytlmcobjpmonkfaa.Kit
