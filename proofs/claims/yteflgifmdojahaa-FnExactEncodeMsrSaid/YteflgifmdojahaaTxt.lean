/- Words for texts: their bytes, their sums and products, what marks them; no program stands here. -/
import Derived.Test.YteflgifmdojahaaElim
import Derived.Test.YteflgifmdojahaaKitW
namespace Go.Proofs.Yteflgifmdojahaa.Kit
open Go.RowKit Go.Proofs.YteflgifmdojahaaW.PrintWords Go.Proofs.YteflgifmdojahaaW.PrintLast Go.Proofs.Yteflgifmdojahaa.Gf Go.Proofs.Yteflgifmdojahaa.KitW
set_option linter.unusedVariables false
set_option linter.unusedSimpArgs false
theorem bytes_bytesOf (s : ByteArray) : Bytes (bytesOf s) := by
  intro x hx
  simp only [bytesOf, List.mem_map] at hx
  obtain ⟨b, _, rfl⟩ := hx
  exact ⟨by omega, by have := b.toNat_lt; omega⟩
theorem bytesOf_str {l : List Int} (h : Bytes l) : bytesOf (strOfNums l) = l := by
  unfold bytesOf
  rw [strOfNums_data, List.map_map]
  have : ∀ x ∈ l, ((fun b : UInt8 => (b.toNat : Int)) ∘ fun n : Int => UInt8.ofNat n.toNat) x = x := by
    intro x hx
    have hb := h x hx
    unfold Byte at hb
    simp only [Function.comp_apply, UInt8.toNat_ofNat']
    omega
  rw [List.map_congr_left this, List.map_id']
theorem str_bytesOf (s : ByteArray) : strOfNums (bytesOf s) = s := by
  unfold strOfNums bytesOf
  rw [List.map_map]
  have : ∀ x ∈ s.data.toList, ((fun n : Int => UInt8.ofNat n.toNat) ∘ fun b : UInt8 => (b.toNat : Int)) x = x := by
    intro x _
    simp
  rw [List.map_congr_left this, List.map_id']
theorem str_append (a b : List Int) : strOfNums a ++ strOfNums b = strOfNums (a ++ b) := by
  apply ByteArray.ext
  rw [ByteArray.data_append]
  unfold strOfNums
  simp
theorem str_inj {a b : List Int} (ha : Bytes a) (hb : Bytes b) (h : strOfNums a = strOfNums b) : a = b := by
  rw [← bytesOf_str ha, h, bytesOf_str hb]
/-- A text of a list. -/
abbrev txt (l : List ByteArray) (i : Nat) : ByteArray := l.getD i ByteArray.empty
theorem rdOf_nat (l : List ByteArray) (i : Nat) : rdOf ByteArray.empty l (i : Int) = txt l i := by unfold rdOf; simp
theorem rdOf_zero (l : List ByteArray) : rdOf ByteArray.empty l 0 = txt l 0 := rdOf_nat l 0
theorem txt_get {l : List ByteArray} {i : Nat} (h : i < l.length) : txt l i = l[i] := by simp [txt, List.getD, h]
theorem txt_mem {l : List ByteArray} {i : Nat} (h : i < l.length) : txt l i ∈ l := by rw [txt_get h]; exact List.getElem_mem h
/-- How many bytes texts have. -/
def totT : List ByteArray → Nat
  | [] => 0
  | s :: l => s.size + totT l
theorem mem_totT {l : List ByteArray} {s : ByteArray} (h : s ∈ l) : s.size ≤ totT l := by
  induction l with
  | nil => simp at h
  | cons x l ih =>
    rcases List.mem_cons.1 h with rfl | h
    · simp [totT]
    · have := ih h; simp only [totT]; omega
/-- Texts that are not too many, and not too long. -/
def textsLe (n : Nat) (l : List ByteArray) : Prop := l.length ≤ n ∧ ∀ s ∈ l, s.size ≤ n
theorem textsLe_of {l : List ByteArray} (h : (l.length : Int) + (totT l : Int) ≤ 1048576) : textsLe 1048576 l := ⟨by omega, fun s hs => by have := mem_totT hs; omega⟩
theorem textsLe.txt {n : Nat} {l : List ByteArray} (h : textsLe n l) (i : Nat) : (txt l i).size ≤ n := by
  by_cases hi : i < l.length
  · exact h.2 _ (txt_mem hi)
  · simp [Kit.txt, List.getD, hi]
theorem textsLe.append {n m : Nat} {a b : List ByteArray} (ha : textsLe n a) (hb : textsLe m b) : textsLe (n + m) (a ++ b) := by
  refine ⟨by have := ha.1; have := hb.1; simp; omega, fun s hs => ?_⟩
  rcases List.mem_append.1 hs with h | h
  · have := ha.2 s h; omega
  · have := hb.2 s h; omega
/-- A text too long, or of another length than the first one. -/
def badT (l : List ByteArray) (j : Nat) : Bool := decide (40 < (txt l j).size) || (txt l j).size != (txt l 0).size
theorem textsOk_bad (l : List ByteArray) : textsOk l = !((List.range l.length).any fun j => badT l j) := rfl
theorem textsOk_all {l : List ByteArray} (h : textsOk l = true) : ∀ j, j < l.length → (txt l j).size = (txt l 0).size ∧ (txt l j).size ≤ 40 := by
  intro j hj
  rw [textsOk_bad] at h
  have h3 : ((List.range l.length).any fun j => badT l j) = false := by simpa using h
  rw [List.any_eq_false] at h3
  have h4 : badT l j = false := by
    have := h3 j (by simpa using hj)
    simpa using this
  unfold badT at h4
  rw [Bool.or_eq_false_iff, bne_eq_false_iff_eq] at h4
  have h5 := of_decide_eq_false h4.1
  exact ⟨h4.2, by omega⟩
theorem textsOk_mem {l : List ByteArray} (h : textsOk l = true) : ∀ s ∈ l, s.size = (txt l 0).size ∧ s.size ≤ 40 := by
  intro s hs
  obtain ⟨j, hj, rfl⟩ := List.getElem_of_mem hs
  have := textsOk_all h j hj
  rwa [txt_get hj] at this
theorem textsOk_le {l : List ByteArray} {n : Nat} (h : textsOk l = true) (hl : l.length ≤ n) (hn : 40 ≤ n) : textsLe n l := ⟨hl, fun s hs => by have := (textsOk_mem h s hs).2; omega⟩
/-- One text of several, told by a row of factors: the first k of them. -/
def mixTo (r : List Int) (D : List ByteArray) (n : Nat) : Nat → List Int
  | 0 => List.replicate n 0
  | k + 1 => addV (mixTo r D n k) (scale (r.getD k 0) (bytesOf (txt D k)))
def mixT (R : List (List Int)) (D : List ByteArray) : List ByteArray := R.map fun r => strOfNums (mixTo r D (txt D 0).size D.length)
theorem mixT_length (R : List (List Int)) (D : List ByteArray) : (mixT R D).length = R.length := by simp [mixT]
theorem mixTo_ok {r : List Int} {D : List ByteArray} {n : Nat} (hr : Bytes r) (hD : ∀ j, j < D.length → (txt D j).size = n) : ∀ k, k ≤ D.length → Bytes (mixTo r D n k) ∧ (mixTo r D n k).length = n
  | 0, _ => ⟨fun x hx => by rw [(List.mem_replicate.1 hx).2]; exact Byte.zero, by simp [mixTo]⟩
  | k + 1, hk => by
    obtain ⟨h1, h2⟩ := mixTo_ok hr hD k (by omega)
    have h3 := hD k (by omega)
    refine ⟨addV_bytes h1 (scale_bytes (bytes_getD hr k) _), ?_⟩
    unfold mixTo
    rw [addV_length, scale_length, bytesOf_length, h2, h3]
    exact Nat.min_self n
theorem mixT_size {R : List (List Int)} {D : List ByteArray} (hR : matBytes R) (hD : ∀ j, j < D.length → (txt D j).size = (txt D 0).size) : ∀ s ∈ mixT R D, s.size = (txt D 0).size := by
  intro s hs
  simp only [mixT, List.mem_map] at hs
  obtain ⟨r, hr, rfl⟩ := hs
  rw [strOfNums_size]
  exact (mixTo_ok (hR r hr) hD _ (Nat.le_refl _)).2
/-- Two lists, the first up to a place, the second from there on. -/
theorem half_set {v b : List Int} (h : v.length = b.length) {j : Nat} (hj : j < b.length) : (v.take j ++ b.drop j).set j (v.getD j 0) = v.take (j + 1) ++ b.drop (j + 1) := by
  have hl : (v.take j).length = j := by rw [List.length_take]; omega
  have hv : j < v.length := by omega
  have e : v.getD j 0 = v[j] := by simp [List.getD, hv]
  rw [List.set_append_right _ _ (by omega), hl, Nat.sub_self, List.drop_eq_getElem_cons hj, List.set_cons_zero, List.take_succ_eq_append_getElem hv, e, List.append_assoc]
  rfl
theorem half_get {v b : List Int} (h : v.length = b.length) {j : Nat} (hj : j < b.length) : rd (v.take j ++ b.drop j) (j : Int) = b.getD j 0 := by
  have hl : (v.take j).length = j := by rw [List.length_take]; omega
  rw [rd_nat, List.getD_eq_getElem?_getD, List.getElem?_append_right (by omega), hl, Nat.sub_self, List.getElem?_drop, Nat.add_zero, List.getD_eq_getElem?_getD]
theorem half_length {v b : List Int} (h : v.length = b.length) {j : Nat} (hj : j ≤ b.length) : (v.take j ++ b.drop j).length = b.length := by
  rw [List.length_append, List.length_take, List.length_drop]; omega
theorem addV_getD {v w : List Int} (h : v.length = w.length) {j : Nat} (hj : j < v.length) : (addV v w).getD j 0 = gx (v.getD j 0) (w.getD j 0) := by
  have hw : j < w.length := by omega
  have hz : j < (addV v w).length := by rw [addV_length]; omega
  rw [show (addV v w).getD j 0 = (addV v w)[j] by simp [List.getD, hz], show v.getD j 0 = v[j] by simp [List.getD, hj], show w.getD j 0 = w[j] by simp [List.getD, hw]]
  simp [addV]
theorem scale_getD {a : Int} {v : List Int} {j : Nat} (hj : j < v.length) : (scale a v).getD j 0 = mul a (v.getD j 0) := by simp [scale, List.getD, hj]
theorem bt_getD (s : ByteArray) (j : Nat) : bt s (j : Int) = (bytesOf s).getD j 0 := by rw [← rd_bytesOf, rd_nat]
theorem bt_byte (s : ByteArray) (i : Int) : Byte (bt s i) := by have := bt_range s i; exact ⟨this.1, by omega⟩
/-- The digits of a number, behind a letter. -/
def mtl : Nat → Nat → List Int → List Int
  | 0, _, s => 109 :: s
  | f + 1, x, s => if x = 0 then 109 :: s else mtl f (x / 10) ((48 + (x % 10 : Nat) : Int) :: s)
def mtx (a : Int) : ByteArray := if a ≤ 0 then strOfNums [109, 48] else strOfNums (mtl 20 a.toNat [])
def markTS (a : Int) (n : Nat) : List ByteArray := (List.range n).map fun i => mtx (a + (i : Nat))
theorem markTS_length (a : Int) (n : Nat) : (markTS a n).length = n := by simp [markTS]
theorem markTS_get (a : Int) (n i : Nat) (h : i < n) : txt (markTS a n) i = mtx (a + (i : Nat)) := by simp [markTS, txt, List.getD, h]
/-- Are two lists of texts the same? -/
def sameAt (a b : List ByteArray) (i : Nat) : Bool := decide ((txt a i).toList = (txt b i).toList)
def sameT (a b : List ByteArray) : Bool := decide (a.length = b.length) && (List.range a.length).all fun i => sameAt a b i
theorem all_succ (p : Nat → Bool) (i d : Nat) : ((List.range (d + 1)).all fun t => p (i + t)) = (p i && (List.range d).all fun t => p (i + 1 + t)) := by
  rw [List.range_succ_eq_map, List.all_cons, List.all_map, Nat.add_zero]
  congr 2
  funext t
  simp only [Function.comp_apply]
  rw [show i + (t + 1) = i + 1 + t by omega]
/-- Are texts those of a stripe? -/
def goodStripe (D P : List ByteArray) : Bool := decide ((1 ≤ (D.length : Int) ∧ (D.length : Int) ≤ 16) ∧ 1 ≤ (P.length : Int) ∧ (P.length : Int) ≤ 4) && textsOk (D ++ P)
theorem txt_left {a b : List ByteArray} {i : Nat} (h : i < a.length) : txt (a ++ b) i = txt a i := by
  rw [txt_get h, txt_get (by rw [List.length_append]; omega), List.getElem_append_left h]
theorem txt_right {a b : List ByteArray} {i : Nat} : txt (a ++ b) (a.length + i) = txt b i := by
  unfold txt
  rw [List.getD_eq_getElem?_getD, List.getD_eq_getElem?_getD, List.getElem?_append_right (by omega), Nat.add_sub_cancel_left]
theorem goodStripe_iff {D P : List ByteArray} (h : goodStripe D P = true) : (1 ≤ D.length ∧ D.length ≤ 16) ∧ (1 ≤ P.length ∧ P.length ≤ 4) ∧ (∀ j, j < D.length → (txt D j).size = (txt D 0).size ∧ (txt D j).size ≤ 40) ∧ ∀ j, j < P.length → (txt P j).size = (txt D 0).size ∧ (txt P j).size ≤ 40 := by
  unfold goodStripe at h
  rw [Bool.and_eq_true, decide_eq_true_eq] at h
  obtain ⟨⟨h1, h2⟩, h3⟩ := h
  have hs := textsOk_all h3
  have hl : (D ++ P).length = D.length + P.length := List.length_append
  have e0 : txt (D ++ P) 0 = txt D 0 := txt_left (by omega)
  refine ⟨by omega, by omega, fun j hj => ?_, fun j hj => ?_⟩
  · have := hs j (by omega)
    rwa [txt_left hj, e0] at this
  · have := hs (D.length + j) (by omega)
    rwa [txt_right, e0] at this
theorem idM_row (n : Nat) : ∀ r ∈ idM n, Bytes r ∧ r.length = n := by
  intro r hr
  simp only [idM, List.mem_map] at hr
  obtain ⟨i, _, rfl⟩ := hr
  refine ⟨fun x hx => ?_, by simp⟩
  rcases List.mem_or_eq_of_mem_set hx with h | h
  · rw [(List.mem_replicate.1 h).2]; exact Byte.zero
  · rw [h]; exact Byte.one
theorem tab_row {n m : Nat} {f : Nat → Nat → Int} (h : ∀ i j, Byte (f i j)) : ∀ r ∈ tab n m f, Bytes r ∧ r.length = m := by
  have hb : matBytes (tab n m f) := tab_bytes fun i _ j _ => h i j
  intro r hr
  refine ⟨hb r hr, ?_⟩
  simp only [tab, List.mem_map] at hr
  obtain ⟨i, _, rfl⟩ := hr
  simp
theorem idM_length (n : Nat) : (idM n).length = n := by simp [idM]
theorem rows_append {n : Nat} {a b : List (List Int)} (ha : ∀ r ∈ a, Bytes r ∧ r.length = n) (hb : ∀ r ∈ b, Bytes r ∧ r.length = n) : ∀ r ∈ a ++ b, Bytes r ∧ r.length = n := by
  intro r hr
  rcases List.mem_append.1 hr with h | h
  · exact ha r h
  · exact hb r h
def cauAt (m i j : Nat) : Int := inv ((Go.bits .xor .i64 (wrap64 ((m : Int) + (i : Int))) (j : Int)) % 256)
theorem mod_byte (x : Int) : Byte (x % 256) := ⟨Int.emod_nonneg _ (by decide), Int.emod_lt_of_pos _ (by decide)⟩
def parAt (i j : Nat) : Int := pow (pow 3 i) j
def codeM (k m : Nat) : List (List Int) := idM k ++ tab m k (cauAt k)
theorem codeM_length (k m : Nat) : (codeM k m).length = k + m := by unfold codeM; rw [List.length_append, idM_length, tab_length]
theorem codeM_rows (k m : Nat) : ∀ r ∈ codeM k m, Bytes r ∧ r.length = k := rows_append (idM_row k) (tab_row fun i j => Byte.inv (mod_byte _))
theorem parTab_rows (n k : Nat) : ∀ r ∈ tab n k parAt, Bytes r ∧ r.length = k := by
  have hb : matBytes (tab n k parAt) := tab_bytes fun i _ j _ => Byte.pow (Byte.pow byte3 i) j
  intro r hr
  refine ⟨hb r hr, ?_⟩
  simp only [tab, List.mem_map] at hr
  obtain ⟨i, _, rfl⟩ := hr
  simp
/-- The rows of a locally repairable code. -/
def grpAt (e i j : Nat) : Int := if j / e = i then 1 else 0
theorem grpAt_byte (e i j : Nat) : Byte (grpAt e i j) := by
  unfold grpAt
  split
  · exact Byte.one
  · exact Byte.zero
def localM (g e m : Nat) : List (List Int) := idM (g * e) ++ tab g (g * e) (grpAt e) ++ tab m (g * e) (cauAt (g * e))
theorem localM_length (g e m : Nat) : (localM g e m).length = g * e + g + m := by unfold localM; rw [List.length_append, List.length_append, idM_length, tab_length, tab_length]
theorem localM_rows (g e m : Nat) : ∀ r ∈ localM g e m, Bytes r ∧ r.length = g * e := rows_append (rows_append (idM_row _) (tab_row fun i j => grpAt_byte e i j)) (tab_row fun i j => Byte.inv (mod_byte _))
/-- The first t places of a group's row. -/
def grpPart (n e i t : Nat) : List Int := (List.range n).map fun j => if i * e ≤ j ∧ j < i * e + t then 1 else 0
theorem grpPart_zero (n e i : Nat) : List.replicate n 0 = grpPart n e i 0 := by
  apply List.ext_getElem
  · simp [grpPart]
  · intro j h1 h2
    simp only [grpPart, List.getElem_replicate, List.getElem_map, List.getElem_range]
    rw [if_neg (by omega)]
theorem grpPart_length (n e i t : Nat) : (grpPart n e i t).length = n := by simp [grpPart]
theorem grpPart_set (n e i t : Nat) : (grpPart n e i t).set (i * e + t) 1 = grpPart n e i (t + 1) := by
  unfold grpPart
  rw [row_set]
  apply List.map_congr_left
  intro j hj
  by_cases c : j = i * e + t
  · rw [if_pos c, if_pos (by omega)]
  · rw [if_neg c]
    by_cases c2 : i * e ≤ j ∧ j < i * e + t
    · rw [if_pos c2, if_pos (by omega)]
    · rw [if_neg c2, if_neg (by omega)]
theorem grpPart_all (n e i : Nat) (he : 0 < e) : grpPart n e i e = (List.range n).map (grpAt e i) := by
  unfold grpPart
  apply List.map_congr_left
  intro j hj
  unfold grpAt
  have hd : j / e = i ↔ i * e ≤ j ∧ j < i * e + e := by
    constructor
    · intro h
      subst h
      have h1 := Nat.div_mul_le_self j e
      have h2 := Nat.lt_div_mul_add he (a := j)
      omega
    · intro h
      exact Nat.div_eq_of_lt_le (by omega) (by rw [Nat.succ_mul]; omega)
  by_cases c : j / e = i
  · rw [if_pos c, if_pos (hd.1 c)]
  · rw [if_neg c, if_neg (fun z => c (hd.2 z))]
theorem GoodLocal_nat {g e m : Int} (h : GoodLocal g e m) : ∃ a b c : Nat, g = a ∧ e = b ∧ m = c ∧ 1 ≤ a ∧ a ≤ 4 ∧ 1 ≤ b ∧ b ≤ 4 ∧ a * b ≤ 8 ∧ 1 ≤ c ∧ c ≤ 4 ∧ (a : Int) * (b : Int) = ((a * b : Nat) : Int) := by
  have h0 := h
  obtain ⟨⟨⟨h1, h2⟩, h3, h4⟩, h5, h6, h7⟩ := h
  have em : ((g.toNat * e.toNat : Nat) : Int) = g * e := by rw [Int.natCast_mul, Int.toNat_of_nonneg (by omega), Int.toNat_of_nonneg (by omega)]
  exact ⟨g.toNat, e.toNat, m.toNat, by omega, by omega, by omega, by omega, by omega, by omega, by omega, by omega, by omega, by omega, by rw [Int.natCast_mul]⟩
theorem scale_one {v : List Int} (h : Bytes v) : scale 1 v = v := by
  unfold scale
  have : ∀ x ∈ v, mul 1 x = id x := fun x hx => one_mul (h x hx)
  rw [List.map_congr_left this, List.map_id]
/-- The sum of two texts, with a factor. -/
def plusT (a : ByteArray) (f : Int) (b : ByteArray) : ByteArray := strOfNums (addV (bytesOf a) (scale f (bytesOf b)))
theorem plusT_size (a : ByteArray) (f : Int) (b : ByteArray) : (plusT a f b).size = min a.size b.size := by
  unfold plusT
  rw [strOfNums_size, addV_length, scale_length, bytesOf_length, bytesOf_length]
/-- The sums of the texts of two lists. -/
def sumT (a b : List ByteArray) : List ByteArray := (List.range a.length).map fun i => plusT (txt a i) 1 (txt b i)
theorem sumT_length (a b : List ByteArray) : (sumT a b).length = a.length := by simp [sumT]
theorem sumT_get (a b : List ByteArray) {i : Nat} (h : i < a.length) : txt (sumT a b) i = plusT (txt a i) 1 (txt b i) := by simp [sumT, txt, List.getD, h]
theorem sumT_succ (a b : List ByteArray) {i : Nat} (h : i < a.length) : (sumT a b).take (i + 1) = (sumT a b).take i ++ [plusT (txt a i) 1 (txt b i)] := by
  rw [List.take_succ_eq_append_getElem (by rw [sumT_length]; exact h)]
  simp [sumT]
/-- A list of texts, the first up to a place, the second from there on. -/
theorem halfT_get {v b : List ByteArray} (h : v.length = b.length) {j : Nat} (hj : j < b.length) : txt (v.take j ++ b.drop j) j = txt b j := by
  have hl : (v.take j).length = j := by rw [List.length_take]; omega
  unfold txt
  rw [List.getD_eq_getElem?_getD, List.getElem?_append_right (by omega), hl, Nat.sub_self, List.getElem?_drop, Nat.add_zero, List.getD_eq_getElem?_getD]
theorem halfT_set {v b : List ByteArray} (h : v.length = b.length) {j : Nat} (hj : j < b.length) : (v.take j ++ b.drop j).set j (txt v j) = v.take (j + 1) ++ b.drop (j + 1) := by
  have hl : (v.take j).length = j := by rw [List.length_take]; omega
  have hv : j < v.length := by omega
  rw [List.set_append_right _ _ (by omega), hl, Nat.sub_self, List.drop_eq_getElem_cons hj, List.set_cons_zero, List.take_succ_eq_append_getElem hv, txt_get hv, List.append_assoc]
  rfl
theorem halfT_length {v b : List ByteArray} (h : v.length = b.length) {j : Nat} (hj : j ≤ b.length) : (v.take j ++ b.drop j).length = b.length := by
  rw [List.length_append, List.length_take, List.length_drop]; omega
def alike (D P E Q : List ByteArray) : Bool := goodStripe D P && (goodStripe E Q && (decide (P.length = Q.length) && decide ((txt D 0).size = (txt E 0).size)))
theorem alike_iff {D P E Q : List ByteArray} : alike D P E Q = true ↔ goodStripe D P = true ∧ goodStripe E Q = true ∧ P.length = Q.length ∧ (txt D 0).size = (txt E 0).size := by
  unfold alike
  rw [Bool.and_eq_true, Bool.and_eq_true, Bool.and_eq_true, decide_eq_true_eq, decide_eq_true_eq]
/-- Texts told place by place. -/
def genT (n : Nat) (g : Nat → ByteArray) : List ByteArray := (List.range n).map g
theorem genT_length (n : Nat) (g : Nat → ByteArray) : (genT n g).length = n := by simp [genT]
theorem genT_get {n : Nat} {g : Nat → ByteArray} {i : Nat} (h : i < n) : txt (genT n g) i = g i := by simp [genT, txt, List.getD, h]
theorem genT_succ {n : Nat} {g : Nat → ByteArray} {i : Nat} (h : i < n) : (genT n g).take (i + 1) = (genT n g).take i ++ [g i] := by
  rw [List.take_succ_eq_append_getElem (by rw [genT_length]; exact h)]
  simp [genT]
theorem textsOk_of {l : List ByteArray} {n : Nat} (hn : n ≤ 40) (h : ∀ j, j < l.length → (txt l j).size = n) : textsOk l = true := by
  rw [textsOk_bad]
  have : ((List.range l.length).any fun j => badT l j) = false := by
    rw [List.any_eq_false]
    intro j hj
    have hj : j < l.length := by simpa using hj
    have h1 := h j hj
    have h2 := h 0 (by omega)
    unfold badT
    rw [decide_eq_false (by omega), h1, h2]
    simp
  rw [this]; rfl
theorem addV_comm (v w : List Int) : addV v w = addV w v := by
  unfold addV
  rw [List.zipWith_comm]
  congr 1
  funext a b
  exact gx_comm _ _
theorem sum_plusT (a b : ByteArray) : strOfNums (addV (bytesOf a) (bytesOf b)) = plusT b 1 a := by
  unfold plusT
  rw [scale_one (bytes_bytesOf _), addV_comm]
def mergeP (D P Q : List ByteArray) : List ByteArray := genT P.length fun i => plusT (txt P i) (parAt i D.length) (txt Q i)
def mergeVal (D P E Q : List ByteArray) : List ByteArray × List ByteArray × Bool := if alike D P E Q = true ∧ D.length + E.length ≤ 16 then (D ++ E, mergeP D P Q, true) else ([], [], false)
theorem mergeVal_len (D P E Q : List ByteArray) : (mergeVal D P E Q).1.length ≤ 16 ∧ (mergeVal D P E Q).2.1.length ≤ 16 := by
  unfold mergeVal
  split
  · rename_i h
    have hg := goodStripe_iff (alike_iff.1 h.1).1
    refine ⟨by show (D ++ E).length ≤ 16; rw [List.length_append]; omega, ?_⟩
    show (mergeP _ _ _).length ≤ 16
    unfold mergeP
    rw [genT_length]; omega
  · simp
theorem merge_good {D P E Q : List ByteArray} (h : alike D P E Q = true) : goodStripe (D ++ E) (mergeP D P Q) = decide (D.length + E.length ≤ 16) := by
  obtain ⟨g1, g2, hl, h0⟩ := alike_iff.1 h
  obtain ⟨a1, a2, a3, a4⟩ := goodStripe_iff g1
  obtain ⟨b1, b2, b3, b4⟩ := goodStripe_iff g2
  have hm : (mergeP D P Q).length = P.length := by unfold mergeP; rw [genT_length]
  have hz := (a3 0 (by omega)).2
  have ht : textsOk (D ++ E ++ mergeP D P Q) = true := by
    refine textsOk_of (n := (txt D 0).size) hz (fun j hj => ?_)
    rw [List.length_append, List.length_append, hm] at hj
    by_cases c1 : j < D.length
    · rw [txt_left (by rw [List.length_append]; omega), txt_left c1]; exact (a3 j c1).1
    · by_cases c2 : j < D.length + E.length
      · have e : j = D.length + (j - D.length) := by omega
        rw [txt_left (by rw [List.length_append]; omega), e, txt_right]
        have := b3 (j - D.length) (by omega)
        omega
      · have e : j = (D ++ E).length + (j - (D.length + E.length)) := by rw [List.length_append]; omega
        rw [e, txt_right]
        unfold mergeP
        rw [genT_get (by omega), plusT_size]
        have := a4 (j - (D.length + E.length)) (by omega)
        have := b4 (j - (D.length + E.length)) (by omega)
        omega
  unfold goodStripe
  rw [ht, Bool.and_true, hm, List.length_append]
  exact decide_eq_decide.2 (by omega)
def changeP (P : List ByteArray) (i : Nat) (d : ByteArray) : List ByteArray := genT P.length fun k => plusT (txt P k) (parAt k i) d
def changeVal (D P : List ByteArray) (i : Int) (s : ByteArray) : List ByteArray × List ByteArray × Bool := if goodStripe D P = true ∧ (0 ≤ i ∧ i ≤ (D.length : Int) - 1) ∧ s.size = (txt D 0).size then (D.set i.toNat s, changeP P i.toNat (plusT (txt D i.toNat) 1 s), true) else ([], [], false)
theorem changeVal_len (D P : List ByteArray) (i : Int) (s : ByteArray) : (changeVal D P i s).1.length ≤ 16 ∧ (changeVal D P i s).2.1.length ≤ 16 := by
  unfold changeVal
  split
  · rename_i h
    have hg := goodStripe_iff h.1
    refine ⟨by show (D.set _ _).length ≤ 16; rw [List.length_set]; omega, ?_⟩
    show (changeP _ _ _).length ≤ 16
    unfold changeP
    rw [genT_length]; omega
  · simp
theorem take_set_T (l : List ByteArray) (i : Nat) (v : ByteArray) (h : i < l.length) : (l.set i v).take (i + 1) = l.take i ++ [v] := by
  rw [List.take_succ_eq_append_getElem (by simpa using h)]
  simp [List.take_set_of_le]
end Go.Proofs.Yteflgifmdojahaa.Kit
