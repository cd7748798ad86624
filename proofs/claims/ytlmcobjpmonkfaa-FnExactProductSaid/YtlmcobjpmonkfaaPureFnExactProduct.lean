/- The given program's Product returns what the reference's Product returns, for all matrices, leaves them as they were, and what it returns is its own; there is no condition. -/
import Derived.Test.YtlmcobjpmonkfaaPFnExactProductx
import Derived.Test.YtlmcobjpmonkfaaWalkFnExactProduct
import Derived.Test.YtlmcobjpmonkfaaKit
import Derived.Test.YtlmcobjpmonkfaaTxt
namespace Go.Proofs.Ytlmcobjpmonkfaa.Pure
open Go.RowKit Go.Proofs.Ytlmcobjpmonkfaa.PFnExactProduct Go.Proofs.YtlmcobjpmonkfaaW.PrintWords Go.Proofs.YtlmcobjpmonkfaaW.PrintLast Go.Proofs.Ytlmcobjpmonkfaa.Gf Go.Proofs.Ytlmcobjpmonkfaa.Kit Go.Proofs.Ytlmcobjpmonkfaa.KitW
set_option linter.unusedVariables false
set_option linter.unusedSimpArgs false

theorem rdSS (l : List (List Int)) (i : Nat) (h : i < l.length) : rd_L1 l (i : Int) = l[i] := by unfold rd_L1; simp [List.getD, h]
theorem rdSS0 (l : List (List Int)) (i : Int) : rd_L1 l i = l.getD i.toNat [] := rfl
theorem laws_eqByteS.ev_l0 (l : List Int) (hl : l.length < 4611686018427387904) : ∀ (n i : Nat), i + n = l.length → Ev (fun k => laws_eqByteS.l0 k l l (i : Int)) true
  | 0, i, hi => by
    refine Ev.step (fun k => laws_eqByteS.l0.eq_2 _ _ _ k) ?_
    exact ev_neg (by omega) (ev_now rfl)
  | n + 1, i, hi => by
    refine Ev.step (fun k => laws_eqByteS.l0.eq_2 _ _ _ k) ?_
    refine ev_pos (by omega) (ev_pos (by omega) (ev_pos (by omega) (ev_pos rfl ?_)))
    rw [inc (by omega)]
    exact laws_eqByteS.ev_l0 l hl n (i + 1) (by omega)
theorem laws_eqByteS.ev (l : List Int) (hl : l.length ≤ 281474976710656) : Ev (fun k => laws_eqByteS.f k l l) true := by
  unfold laws_eqByteS.f
  exact ev_pos rfl (laws_eqByteS.ev_l0 l (by omega) l.length 0 (by omega))

theorem laws_eqByteSS.ev_l0 (l : List (List Int)) (hl : rowsLe 1048576 l) : ∀ (n i : Nat), i + n = l.length → Ev (fun k => laws_eqByteSS.l0 k l l (i : Int)) true
  | 0, i, hi => by
    refine Ev.step (fun k => laws_eqByteSS.l0.eq_2 _ _ _ k) ?_
    exact ev_neg (by omega) (ev_now rfl)
  | n + 1, i, hi => by
    have h1 := hl.1
    have h2 := hl.2 _ (List.getElem_mem (show i < l.length by omega))
    refine Ev.step (fun k => laws_eqByteSS.l0.eq_2 _ _ _ k) ?_
    refine ev_pos (by omega) (ev_pos (by omega) (ev_pos (by omega) ?_))
    rw [rdSS l i (by omega), inc (by omega)]
    exact ev_bind (laws_eqByteS.ev _ (by omega)) (ev_pos rfl (laws_eqByteSS.ev_l0 l hl n (i + 1) (by omega)))
theorem laws_eqByteSS.ev (l : List (List Int)) (hl : rowsLe 1048576 l) : Ev (fun k => laws_eqByteSS.f k l l) true := by
  unfold laws_eqByteSS.f
  exact ev_pos rfl (laws_eqByteSS.ev_l0 l hl l.length 0 (by omega))

theorem laws_eqMatrix.ev (l : List (List Int)) (hl : rowsLe 1048576 l) : Ev (fun k => laws_eqMatrix.f k l l) true := by
  unfold laws_eqMatrix.f
  exact ev_bind (laws_eqByteSS.ev l hl) (ev_pos rfl (ev_now rfl))

theorem laws_markByteS.ev_l0 (a : Int) (m : Nat) (ha : 0 ≤ a) (hm : a + m < 4611686018427387904) : ∀ (n i : Nat) (o : List Int), i + n = m → o.length = m → o.take i = (markB a m).take i →
    Ev (fun k => laws_markByteS.l0 k o (a + (i : Nat)) (i : Int)) (a + (m : Nat), markB a m)
  | 0, i, o, hi, ho, ht => by
    refine Ev.step (fun k => laws_markByteS.l0.eq_2 _ _ _ k) ?_
    refine ev_neg (by omega) (ev_now ?_)
    have hb := markB_length a m
    rw [List.take_of_length_le (by omega), List.take_of_length_le (by omega)] at ht
    subst ht
    have : i = m := by omega
    rw [this]
  | n + 1, i, o, hi, ho, ht => by
    refine Ev.step (fun k => laws_markByteS.l0.eq_2 _ _ _ k) ?_
    refine ev_pos (by omega) (ev_pos (by omega) ?_)
    have e : wrap64 (a + (i : Nat) + 1) = a + ((i + 1 : Nat) : Int) := by unfold wrap64; omega
    rw [inc (by omega), e, Int.toNat_natCast]
    refine laws_markByteS.ev_l0 a m ha hm n (i + 1) _ (by omega) (by simpa using ho) ?_
    have hb := markB_length a m
    rw [take_set_succ _ _ _ (by omega), ht, List.take_succ_eq_append_getElem (by omega), markB_get]
theorem laws_markByteS.ev (l : List Int) (a : Int) (ha : 0 ≤ a) (hm : a + l.length < 4611686018427387904) : Ev (fun k => laws_markByteS.f k l a) (a + (l.length : Nat), markB a l.length) := by
  unfold laws_markByteS.f
  have := laws_markByteS.ev_l0 a l.length ha hm l.length 0 l (by omega) rfl rfl
  simpa using this

theorem laws_heldByteS.ev_l0 (a : Int) (m : Nat) (ha : 0 ≤ a) (hm : a + m < 4611686018427387904) : ∀ (n i : Nat), i + n = m →
    Ev (fun k => laws_heldByteS.l0 k (markB a m) (a + (i : Nat)) (i : Int)) (a + (m : Nat))
  | 0, i, hi => by
    have hb := markB_length a m
    refine Ev.step (fun k => laws_heldByteS.l0.eq_2 _ _ _ k) ?_
    refine ev_neg (by omega) (ev_now ?_)
    have : i = m := by omega
    rw [this]
  | n + 1, i, hi => by
    have hb := markB_length a m
    refine Ev.step (fun k => laws_heldByteS.l0.eq_2 _ _ _ k) ?_
    refine ev_pos (by omega) (ev_pos (by omega) (ev_pos (by rw [rd_get (by omega), markB_get]) ?_))
    have e : wrap64 (a + (i : Nat) + 1) = a + ((i + 1 : Nat) : Int) := by unfold wrap64; omega
    rw [inc (by omega), e]
    exact laws_heldByteS.ev_l0 a m ha hm n (i + 1) (by omega)
theorem laws_heldByteS.ev (a : Int) (m : Nat) (ha : 0 ≤ a) (hm : a + m < 4611686018427387904) : Ev (fun k => laws_heldByteS.f k (markB a m) a) (a + (m : Nat)) := by
  unfold laws_heldByteS.f
  have := laws_heldByteS.ev_l0 a m ha hm m 0 (by omega)
  simpa using this

theorem markSS_get (R : List (List Int)) : ∀ (a : Int) (i : Nat) (h : i < R.length), (markSS a R)[i]'(by rw [markSS_length]; exact h) = markB (a + (totSS (R.take i) : Nat)) (R[i]).length := by
  induction R with
  | nil => intro a i h; simp at h
  | cons r R ih =>
    intro a i h
    cases i with
    | zero => simp [markSS, totSS]
    | succ i =>
      have := ih (a + (r.length : Nat)) i (by simpa using h)
      simp only [markSS, List.getElem_cons_succ, List.take_succ_cons, totSS] at this ⊢
      rw [this]
      congr 1
      omega
theorem laws_heldByteSS.ev_l0 (R : List (List Int)) (a : Int) (ha : 0 ≤ a) (hm : a + (totSS R : Nat) < 4611686018427387904) (hl : R.length < 4611686018427387904) : ∀ (n i : Nat), i + n = R.length →
    Ev (fun k => laws_heldByteSS.l0 k (markSS a R) (a + (totSS (R.take i) : Nat)) (i : Int)) (a + (totSS R : Nat))
  | 0, i, hi => by
    have hb := markSS_length a R
    refine Ev.step (fun k => laws_heldByteSS.l0.eq_2 _ _ _ k) ?_
    refine ev_neg (by omega) (ev_now ?_)
    rw [List.take_of_length_le (by omega)]
  | n + 1, i, hi => by
    have hb := markSS_length a R
    have hlt : i < R.length := by omega
    have htake : totSS (R.take (i + 1)) = totSS (R.take i) + R[i].length := by
      rw [List.take_succ_eq_append_getElem hlt, totSS_append]; simp [totSS]
    have hle : totSS (R.take (i + 1)) ≤ totSS R := by
      have e := congrArg totSS (List.take_append_drop (i + 1) R)
      rw [totSS_append] at e
      omega
    have ih := laws_heldByteSS.ev_l0 R a ha hm hl n (i + 1) (by omega)
    rw [htake] at ih
    refine Ev.step (fun k => laws_heldByteSS.l0.eq_2 _ _ _ k) ?_
    refine ev_pos (by omega) (ev_pos (by omega) ?_)
    rw [rdSS _ i (by omega), markSS_get R a i hlt, inc (by omega)]
    refine ev_bind (laws_heldByteS.ev _ _ (by omega) (by omega)) (ev_neg (by omega) (ev_eq ?_ rfl))
    have e : a + ((totSS (R.take i) + R[i].length : Nat) : Int) = a + (totSS (R.take i) : Nat) + (R[i].length : Nat) := by omega
    rw [e] at ih
    exact ih
theorem laws_heldByteSS.ev (R : List (List Int)) (a : Int) (ha : 0 ≤ a) (hm : a + (totSS R : Nat) < 4611686018427387904) (hl : R.length < 4611686018427387904) : Ev (fun k => laws_heldByteSS.f k (markSS a R) a) (a + (totSS R : Nat)) := by
  unfold laws_heldByteSS.f
  have := laws_heldByteSS.ev_l0 R a ha hm hl R.length 0 (by omega)
  simpa [totSS] using this

theorem laws_heldMatrix.ev (R : List (List Int)) (a : Int) (ha : 0 ≤ a) (hm : a + (totSS R : Nat) < 4611686018427387904) (hl : R.length < 4611686018427387904) : Ev (fun k => laws_heldMatrix.f k (markSS a R) a) (a + (totSS R : Nat)) := by
  unfold laws_heldMatrix.f
  exact ev_bind (laws_heldByteSS.ev R a ha hm hl) (ev_neg (by omega) (ev_now rfl))

theorem laws_szByteS.ev (l : List Int) (a : Int) (hl : l.length ≤ maxLen) (h1 : 0 ≤ a) (h2 : a ≤ 1048576) : laws_szByteS.f l a = some (if (l.length : Int) ≤ a then a - (l.length : Int) else -1) := by
  unfold laws_szByteS.f
  unfold maxLen at hl
  have e : wrap64 (a - (l.length : Int)) = a - (l.length : Int) := by unfold wrap64; omega
  rw [e]
  by_cases h : (l.length : Int) ≤ a
  · rw [if_neg (by omega), if_pos h]
  · rw [if_pos (by omega), if_neg h]

theorem laws_szByteSS.ev_l0 (l : List (List Int)) (hl : l.length ≤ 1048576) (hr : ∀ r ∈ l, r.length ≤ maxLen) : ∀ (n i : Nat) (t : Int), i + n = l.length → 0 ≤ t → t ≤ 1048576 →
    Ev (fun k => laws_szByteSS.l0 k l t (i : Int)) (if (totSS (l.drop i) : Int) ≤ t then t - (totSS (l.drop i) : Int) else -1)
  | 0, i, t, hi, h0, h1 => by
    refine Ev.step (fun k => laws_szByteSS.l0.eq_2 _ _ _ k) ?_
    refine ev_neg (by omega) (ev_now ?_)
    rw [List.drop_of_length_le (by omega)]
    simp [totSS, h0]
  | n + 1, i, t, hi, h0, h1 => by
    have hlt : i < l.length := by omega
    have hm : i < 4611686018427387904 := by omega
    have he : totSS (l.drop i) = l[i].length + totSS (l.drop (i + 1)) := by rw [List.drop_eq_getElem_cons hlt]; rfl
    refine Ev.step (fun k => laws_szByteSS.l0.eq_2 _ _ _ k) ?_
    refine ev_pos (by omega) (ev_pos (by omega) ?_)
    rw [rdSS l i hlt, he]
    simp only [laws_szByteS.ev l[i] t (hr _ (List.getElem_mem hlt)) h0 h1, Option.bind_some]
    by_cases h : ((l[i]).length : Int) ≤ t
    · rw [if_pos h]
      refine ev_neg (by omega) ?_
      rw [inc hm]
      refine ev_eq (laws_szByteSS.ev_l0 l hl hr n (i + 1) (t - ((l[i]).length : Int)) (by omega) (by omega) (by omega)) ?_
      by_cases h2 : (totSS (l.drop (i + 1)) : Int) ≤ t - ((l[i]).length : Int)
      · rw [if_pos h2, if_pos (by omega)]; omega
      · rw [if_neg h2, if_neg (by omega)]
    · rw [if_neg h]
      refine ev_pos (by omega) (ev_now ?_)
      rw [if_neg (by omega)]
theorem laws_szByteSS.ev (l : List (List Int)) (hl : l.length ≤ maxLen) (hr : ∀ r ∈ l, r.length ≤ maxLen) (t : Int) (h0 : 0 ≤ t) (h1 : t ≤ 1048576) :
    Ev (fun k => laws_szByteSS.f k l t) (if (l.length : Int) + (totSS l : Int) ≤ t then t - (l.length : Int) - (totSS l : Int) else -1) := by
  unfold laws_szByteSS.f
  have e : wrap64 (t - (l.length : Int)) = t - (l.length : Int) := by unfold maxLen at hl; unfold wrap64; omega
  rw [e]
  by_cases h : (l.length : Int) ≤ t
  · refine ev_neg (by omega) (ev_eq (laws_szByteSS.ev_l0 l (by omega) hr l.length 0 _ (by omega) (by omega) (by omega)) ?_)
    rw [List.drop_zero]
    by_cases h2 : (totSS l : Int) ≤ t - (l.length : Int)
    · rw [if_pos h2, if_pos (by omega)]
    · rw [if_neg h2, if_neg (by omega)]
  · refine ev_pos (by omega) (ev_now ?_)
    rw [if_neg (by omega)]
theorem mem_totSS {l : List (List Int)} {r : List Int} (h : r ∈ l) : r.length ≤ totSS l := by
  induction l with
  | nil => simp at h
  | cons x l ih =>
    rcases List.mem_cons.1 h with rfl | h
    · simp [totSS]
    · have := ih h; simp only [totSS]; omega
theorem rowsLe_of {l : List (List Int)} (h : (l.length : Int) + (totSS l : Int) ≤ 1048576) : rowsLe 1048576 l := ⟨by omega, fun r hr => by have := mem_totSS hr; omega⟩

theorem laws_szMatrix.ev (l : List (List Int)) (hl : l.length ≤ maxLen) (hr : ∀ r ∈ l, r.length ≤ maxLen) (t : Int) (h0 : 0 ≤ t) (h1 : t ≤ 1048576) :
    Ev (fun k => laws_szMatrix.f k l t) (if (l.length : Int) + (totSS l : Int) ≤ t then t - (l.length : Int) - (totSS l : Int) else -1) := by
  unfold laws_szMatrix.f
  refine ev_bind (laws_szByteSS.ev l hl hr t h0 h1) ?_
  by_cases h : (l.length : Int) + (totSS l : Int) ≤ t
  · rw [if_pos h]; exact ev_neg (by omega) (ev_now rfl)
  · rw [if_neg h]; exact ev_pos (by omega) (ev_now rfl)

theorem spec_l1In.ev (a b c : Int) : spec_l1In.f a b c = some (decide (b ≤ a ∧ a ≤ c)) := by
  unfold spec_l1In.f
  by_cases h : a ≥ b
  · rw [if_pos h]; simp [h]
  · rw [if_neg h]; simp; omega

theorem goodM_first {l : List (List Int)} (h1 : 1 ≤ l.length ∧ l.length ≤ 16) (h2 : 1 ≤ (l.getD 0 []).length ∧ (l.getD 0 []).length ≤ 16) : goodM l = !((List.range l.length).any fun i => (l.getD i []).length != (l.getD 0 []).length) := by
  unfold goodM
  rw [decide_eq_true (show 1 ≤ l.length ∧ l.length ≤ 16 ∧ 1 ≤ (l.getD 0 []).length ∧ (l.getD 0 []).length ≤ 16 from ⟨h1.1, h1.2, h2⟩), Bool.true_and]
theorem goodM_no {l : List (List Int)} (h : ¬ (1 ≤ l.length ∧ l.length ≤ 16 ∧ 1 ≤ (l.getD 0 []).length ∧ (l.getD 0 []).length ≤ 16)) : goodM l = false := by
  unfold goodM
  rw [decide_eq_false h, Bool.false_and]
theorem spec_GoodMatrix.ev_l0 (l : List (List Int)) (h1 : 1 ≤ l.length ∧ l.length ≤ 16) (h2 : 1 ≤ (l.getD 0 []).length ∧ (l.getD 0 []).length ≤ 16) : ∀ (n i : Nat), i + n = l.length → (∀ j, j < i → (l.getD j []).length = (l.getD 0 []).length) →
    Ev (fun k => spec_GoodMatrix.l0 k l (l.length : Int) (i : Int) l) (goodM l)
  | 0, i, hi, ha => by
    refine Ev.step (fun k => spec_GoodMatrix.l0.eq_2 _ _ _ _ k) ?_
    refine ev_neg (by omega) (ev_now ?_)
    rw [goodM_first h1 h2]
    have : ((List.range l.length).any fun i => (l.getD i []).length != (l.getD 0 []).length) = false := by
      rw [List.any_eq_false]
      intro x hx
      have hx' : x < l.length := by simpa using hx
      simp only [ha x (by omega), bne_self_eq_false]
      simp
    rw [this]; rfl
  | n + 1, i, hi, ha => by
    refine Ev.step (fun k => spec_GoodMatrix.l0.eq_2 _ _ _ _ k) ?_
    refine ev_pos (by omega) (ev_pos (by omega) (ev_pos (by omega) (ev_pos (by omega) ?_)))
    simp only [rdSS0, Int.toNat_natCast, Int.toNat_zero]
    by_cases h : (l.getD i []).length = (l.getD 0 []).length
    · refine ev_pos (by omega) ?_
      rw [inc (by omega)]
      exact spec_GoodMatrix.ev_l0 l h1 h2 n (i + 1) (by omega) (fun j hj => by by_cases e : j = i; exact e ▸ h; exact ha j (by omega))
    · refine ev_neg (by omega) (ev_now ?_)
      rw [goodM_first h1 h2]
      have : ((List.range l.length).any fun i => (l.getD i []).length != (l.getD 0 []).length) = true := List.any_eq_true.2 ⟨i, by simp; omega, by simpa using h⟩
      rw [this]; rfl
theorem spec_GoodMatrix.ev (l : List (List Int)) : Ev (fun k => spec_GoodMatrix.f k l) (goodM l) := by
  unfold spec_GoodMatrix.f
  simp only [spec_l1In.ev, Option.bind_some, decide_eq_true_eq, rdSS0, Int.toNat_zero]
  by_cases h1 : 1 ≤ (l.length : Int) ∧ (l.length : Int) ≤ 16
  · refine ev_pos h1 (ev_pos (by omega) ?_)
    by_cases h2 : 1 ≤ ((l.getD 0 []).length : Int) ∧ ((l.getD 0 []).length : Int) ≤ 16
    · rw [decide_eq_true h2]
      refine Ev.step (fun k => spec_GoodMatrix.j0.eq_2 _ _ k) (ev_neg (by simp) ?_)
      exact spec_GoodMatrix.ev_l0 l (by omega) (by omega) l.length 0 (by omega) (fun j hj => absurd hj (by omega))
    · rw [decide_eq_false h2]
      refine Ev.step (fun k => spec_GoodMatrix.j0.eq_2 _ _ k) (ev_pos rfl (ev_now ?_))
      exact (goodM_no (by omega)).symm
  · refine ev_neg h1 ?_
    refine Ev.step (fun k => spec_GoodMatrix.j0.eq_2 _ _ k) (ev_pos rfl (ev_now ?_))
    exact (goodM_no (by omega)).symm

theorem spec_l2Blank.ev_l0 (n m : Nat) (hn : n ≤ 1048576) (hm : m ≤ 1048576) : ∀ (d i : Nat), i + d = n → Ev (fun k => spec_l2Blank.l0 k (n : Int) (m : Int) (i : Int) (blankM i m)) (blankM n m)
  | 0, i, hi => by
    obtain rfl : i = n := by omega
    refine Ev.step (fun k => spec_l2Blank.l0.eq_2 _ _ _ _ k) ?_
    exact ev_neg (by omega) (ev_now rfl)
  | d + 1, i, hi => by
    have ih := spec_l2Blank.ev_l0 n m hn hm d (i + 1) (by omega)
    refine Ev.step (fun k => spec_l2Blank.l0.eq_2 _ _ _ _ k) ?_
    refine ev_pos (by omega) (ev_pos (by omega) (ev_pos (by omega) (ev_pos (by simp [blankM]; omega) ?_)))
    rw [inc (by omega), Int.toNat_natCast]
    have e : blankM i m ++ [List.replicate m 0] = blankM (i + 1) m := by
      unfold blankM; rw [List.replicate_succ']
    rw [e]
    exact ih
theorem spec_l2Blank.ev (n m : Nat) (hn : n ≤ 1048576) (hm : m ≤ 1048576) : Ev (fun k => spec_l2Blank.f k (n : Int) (m : Int)) (blankM n m) := by
  unfold spec_l2Blank.f
  exact spec_l2Blank.ev_l0 n m hn hm n 0 (by omega)

theorem spec_l1Times.ev_l0 : ∀ (n o x y : Nat), y < 2 ^ n → n ≤ 8 → o < 256 → x < 256 →
    Ev (fun k => spec_l1Times.l0 k (o : Int) (x : Int) (y : Int)) ((T n o x y : Nat) : Int)
  | 0, o, x, y, hy, _, ho, hx => by
    refine Ev.step (fun k => spec_l1Times.l0.eq_2 _ _ _ k) ?_
    have : y = 0 := by simpa using hy
    subst this
    refine ev_neg (by decide) (ev_now ?_)
    simp only [T]
    omega
  | n + 1, o, x, y, hy, hn, ho, hx => by
    have hy8 : y < 256 := Nat.lt_of_lt_of_le hy (Nat.pow_le_pow_right (n := 2) (by decide) hn)
    by_cases h0 : y = 0
    · subst h0
      refine Ev.step (fun k => spec_l1Times.l0.eq_2 _ _ _ k) ?_
      refine ev_neg (by decide) (ev_now ?_)
      rw [T_zero]
      omega
    refine Ev.step (fun k => spec_l1Times.l0.eq_2 _ _ _ k) ?_
    refine ev_pos (by omega) ?_
    have e2 : wrap64 ((x : Int) * 2) = ((2 * x : Nat) : Int) := by rw [wrap_id (by omega) (by omega)]; omega
    have e3 : ((y : Int) / 2) = ((y / 2 : Nat) : Int) := by omega
    have e4 : Go.bits .xor .i64 (o : Int) (x : Int) = ((o ^^^ x : Nat) : Int) := xor_i64 (by omega) (by omega)
    have e5 : Go.bits .xor .i64 ((2 * x : Nat) : Int) 283 = ((2 * x ^^^ 283 : Nat) : Int) := xor_i64 (m := 2 * x) (n := 283) (by omega) (by omega)
    rw [and1_i64 (by omega), e2, e3, e4, e5]
    have hT : T (n + 1) o x y = T n (if y % 2 = 1 then o ^^^ x else o) (xt x) (y / 2) := by rw [T]
    rw [hT]
    have hxt := xt_lt hx
    have hox := xor_lt ho hx
    have hh : y / 2 < 2 ^ n := by rw [Nat.pow_succ] at hy; omega
    by_cases h1 : y % 2 = 1
    · rw [if_pos h1]
      refine ev_pos (by omega) ?_
      by_cases h2 : 2 * x > 255
      · refine ev_pos (by omega) ?_
        have : xt x = 2 * x ^^^ 283 := by unfold xt; rw [if_pos h2]
        rw [this] at hxt ⊢
        exact spec_l1Times.ev_l0 n _ _ _ hh (by omega) hox hxt
      · refine ev_neg (by omega) ?_
        have : xt x = 2 * x := by unfold xt; rw [if_neg h2]
        rw [this] at hxt ⊢
        exact spec_l1Times.ev_l0 n _ _ _ hh (by omega) hox hxt
    · rw [if_neg h1]
      refine ev_neg (by omega) ?_
      by_cases h2 : 2 * x > 255
      · refine ev_pos (by omega) ?_
        have : xt x = 2 * x ^^^ 283 := by unfold xt; rw [if_pos h2]
        rw [this] at hxt ⊢
        exact spec_l1Times.ev_l0 n _ _ _ hh (by omega) ho hxt
      · refine ev_neg (by omega) ?_
        have : xt x = 2 * x := by unfold xt; rw [if_neg h2]
        rw [this] at hxt ⊢
        exact spec_l1Times.ev_l0 n _ _ _ hh (by omega) ho hxt
theorem spec_l1Times.ev {a b : Int} (ha : Byte a) (hb : Byte b) : Ev (fun k => spec_l1Times.f k a b) (mul a b) := by
  obtain ⟨m, hm, rfl⟩ := ha.nat
  obtain ⟨n, hn, rfl⟩ := hb.nat
  unfold spec_l1Times.f
  rw [wrap_id (i := (m : Int)) (by omega) (by omega), wrap_id (i := (n : Int)) (by omega) (by omega)]
  have h := spec_l1Times.ev_l0 8 0 m n hn (Nat.le_refl _) (by decide) hm
  exact ev_eq h (by unfold Gf.mul gm; simp)

def prPart (a b : List (List Int)) (i k j : Nat) : List (List Int) := tab a.length (b.getD 0 []).length fun x y => if x < i then prodAt a b x y b.length else if x = i then prodAt a b x y (if y < j then k + 1 else k) else 0
theorem prPart_row (a b : List (List Int)) (i k : Nat) : prPart a b i k (b.getD 0 []).length = prPart a b i (k + 1) 0 := by
  apply tab_congr
  intro x hx y hy
  by_cases h : x < i
  · rw [if_pos h, if_pos h]
  · rw [if_neg h, if_neg h]
    by_cases h2 : x = i
    · rw [if_pos h2, if_pos h2, if_pos hy, if_neg (by omega)]
    · rw [if_neg h2, if_neg h2]
theorem prPart_next (a b : List (List Int)) (i : Nat) : prPart a b i b.length 0 = prPart a b (i + 1) 0 0 := by
  apply tab_congr
  intro x hx y hy
  by_cases h : x < i
  · rw [if_pos h, if_pos (by omega)]
  · rw [if_neg h]
    by_cases h2 : x = i
    · rw [if_pos h2, if_neg (by omega), if_pos (by omega)]
    · rw [if_neg h2, if_neg (by omega)]
      by_cases h3 : x = i + 1
      · rw [if_pos h3, if_neg (by omega)]; rfl
      · rw [if_neg h3]
theorem spec_l2Product.ev_l2 (a b : List (List Int)) (ha : matBytes a) (hb : matBytes b) (hg : goodM a = true) (hg2 : goodM b = true) (hp : (a.getD 0 []).length = b.length) (i k : Nat) (hi : i < a.length) (hk : k < b.length) {R : List (List Int)}
    (K : Ev (fun q => spec_l2Product.l1 q (i : Int) a (a.length : Int) (i : Int) (a.getD i []) ((a.getD i []).length : Int) (wrap64 ((k : Int) + 1)) b (prPart a b i (k + 1) 0)) R) : ∀ (d j : Nat), j + d = (b.getD 0 []).length →
    Ev (fun q => spec_l2Product.l2 q (i : Int) (rd (a.getD i []) (k : Int)) a (a.length : Int) (i : Int) (a.getD i []) ((a.getD i []).length : Int) (k : Int) (b.getD k []) ((b.getD k []).length : Int) (j : Int) b (prPart a b i k j)) R
  | 0, j, hj => by
    have hf := goodM_iff hg2
    have e := hf.2.2 k hk
    refine Ev.step (fun q => spec_l2Product.l2.eq_2 _ _ _ _ _ _ _ _ _ _ _ _ _ q) ?_
    refine ev_neg (by omega) ?_
    rw [show j = (b.getD 0 []).length by omega, prPart_row]
    exact K
  | d + 1, j, hj => by
    have hf := goodM_iff hg2
    have hf1 := goodM_iff hg
    have e := hf.2.2 k hk
    have hlen : (prPart a b i k j).length = a.length := tab_length _ _ _
    have hrow : ((prPart a b i k j).getD i []).length = (b.getD 0 []).length := tab_getD_length (by omega)
    have hat : ((prPart a b i k j).getD i []).getD j 0 = prodAt a b i j k := by
      unfold prPart
      rw [tab_get2 hi (by omega), if_neg (by omega), if_pos rfl, if_neg (by omega)]
    refine Ev.step (fun q => spec_l2Product.l2.eq_2 _ _ _ _ _ _ _ _ _ _ _ _ _ q) ?_
    simp only [rdSS0, Int.toNat_natCast]
    refine ev_pos (by omega) (ev_pos (by omega) (ev_pos (by omega) (ev_pos (by omega) (ev_pos (by omega) (ev_pos (by omega) ?_)))))
    have bx : Byte (rd (a.getD i []) (k : Int)) := by rw [rd_nat]; exact matBytes_get ha i k
    have by' : Byte (rd (b.getD k []) (j : Int)) := by rw [rd_nat]; exact matBytes_get hb k j
    refine ev_bind (spec_l1Times.ev bx by') ?_
    rw [inc (by omega)]
    have hs : (prPart a b i k j).set i (((prPart a b i k j).getD i []).set j (Go.bits .xor .u8 (rd ((prPart a b i k j).getD i []) (j : Int)) (mul (rd (a.getD i []) (k : Int)) (rd (b.getD k []) (j : Int))))) = prPart a b i k (j + 1) := by
      rw [rd_nat ((prPart a b i k j).getD i []), hat, xor_u8 (prodAt_byte ha i j k) (Byte.mul bx _), rd_nat, rd_nat]
      unfold prPart
      rw [tab_set hi]
      apply tab_congr
      intro x hx y hy
      by_cases h : x = i ∧ y = j
      · obtain ⟨rfl, rfl⟩ := h
        rw [if_pos ⟨rfl, rfl⟩, if_neg (by omega), if_pos rfl, if_pos (by omega)]
        rfl
      · rw [if_neg h]
        by_cases h1 : x < i
        · rw [if_pos h1, if_pos h1]
        · rw [if_neg h1, if_neg h1]
          by_cases h2 : x = i
          · rw [if_pos h2, if_pos h2]
            by_cases h3 : y < j
            · rw [if_pos h3, if_pos (by omega)]
            · rw [if_neg h3, if_neg (by omega)]
          · rw [if_neg h2, if_neg h2]
    rw [hs]
    exact spec_l2Product.ev_l2 a b ha hb hg hg2 hp i k hi hk K d (j + 1) (by omega)
theorem spec_l2Product.ev_l1 (a b : List (List Int)) (ha : matBytes a) (hb : matBytes b) (hg : goodM a = true) (hg2 : goodM b = true) (hp : (a.getD 0 []).length = b.length) (i : Nat) (hi : i < a.length) {R : List (List Int)}
    (K : Ev (fun q => spec_l2Product.l0 q a (a.length : Int) (wrap64 ((i : Int) + 1)) b (prPart a b (i + 1) 0 0)) R) : ∀ (d k : Nat), k + d = b.length →
    Ev (fun q => spec_l2Product.l1 q (i : Int) a (a.length : Int) (i : Int) (a.getD i []) ((a.getD i []).length : Int) (k : Int) b (prPart a b i k 0)) R
  | 0, k, hk => by
    have hf1 := goodM_iff hg
    have e := hf1.2.2 i hi
    refine Ev.step (fun q => spec_l2Product.l1.eq_2 _ _ _ _ _ _ _ _ _ q) ?_
    refine ev_neg (by omega) ?_
    rw [show k = b.length by omega, prPart_next]
    exact K
  | d + 1, k, hk => by
    have hf1 := goodM_iff hg
    have hf := goodM_iff hg2
    have e := hf1.2.2 i hi
    have ih := spec_l2Product.ev_l1 a b ha hb hg hg2 hp i hi K d (k + 1) (by omega)
    refine Ev.step (fun q => spec_l2Product.l1.eq_2 _ _ _ _ _ _ _ _ _ q) ?_
    simp only [rdSS0, Int.toNat_natCast]
    refine ev_pos (by omega) (ev_pos (by omega) (ev_pos (by omega) (ev_pos (by omega) ?_)))
    exact spec_l2Product.ev_l2 a b ha hb hg hg2 hp i k hi (by omega) (by rw [inc (by omega)]; exact ih) (b.getD 0 []).length 0 (by omega)
theorem spec_l2Product.ev_l0 (a b : List (List Int)) (ha : matBytes a) (hb : matBytes b) (hg : goodM a = true) (hg2 : goodM b = true) (hp : (a.getD 0 []).length = b.length) : ∀ (d i : Nat), i + d = a.length →
    Ev (fun q => spec_l2Product.l0 q a (a.length : Int) (i : Int) b (prPart a b i 0 0)) (prodM a b)
  | 0, i, hi => by
    refine Ev.step (fun q => spec_l2Product.l0.eq_2 _ _ _ _ _ q) ?_
    refine ev_neg (by omega) (ev_now ?_)
    apply tab_congr
    intro x hx y hy
    rw [if_pos (by omega)]
  | d + 1, i, hi => by
    have hf1 := goodM_iff hg
    have ih := spec_l2Product.ev_l0 a b ha hb hg hg2 hp d (i + 1) (by omega)
    refine Ev.step (fun q => spec_l2Product.l0.eq_2 _ _ _ _ _ q) ?_
    simp only [rdSS0, Int.toNat_natCast]
    refine ev_pos (by omega) (ev_pos (by omega) (ev_pos (by omega) ?_))
    exact spec_l2Product.ev_l1 a b ha hb hg hg2 hp i (by omega) (by rw [inc (by omega)]; exact ih) b.length 0 (by omega)
theorem spec_l2Product.ev (a b : List (List Int)) (ha : matBytes a) (hb : matBytes b) (hg : goodM a = true) (hg2 : goodM b = true) (hp : (a.getD 0 []).length = b.length) : Ev (fun q => spec_l2Product.f q a b) (prodM a b) := by
  have hf1 := goodM_iff hg
  have hf := goodM_iff hg2
  unfold spec_l2Product.f
  refine ev_pos (by omega) ?_
  simp only [rdSS0, Int.toNat_zero]
  refine ev_bind (spec_l2Blank.ev _ _ (by omega) (by omega)) ?_
  have e : blankM a.length (b.getD 0 []).length = prPart a b 0 0 0 := by
    rw [tab_blank]
    apply tab_congr
    intro x hx y hy
    rw [if_neg (by omega)]
    by_cases h : x = 0
    · rw [if_pos h, if_neg (by omega)]; rfl
    · rw [if_neg h]
  rw [e]
  exact spec_l2Product.ev_l0 a b ha hb hg hg2 hp a.length 0 (by omega)

def productVal (a b : List (List Int)) : List (List Int) × Bool := if goodM a = true ∧ goodM b = true ∧ (a.getD 0 []).length = b.length then (prodM a b, true) else ([], false)
theorem productVal_no {a b : List (List Int)} (h : ¬ (goodM a = true ∧ goodM b = true ∧ (a.getD 0 []).length = b.length)) : productVal a b = ([], false) := if_neg h
theorem spec_Product.ev (a b : List (List Int)) (ha : matBytes a) (hb : matBytes b) : Ev (fun q => spec_Product.f q a b) (productVal a b) := by
  unfold spec_Product.f
  refine ev_bind (spec_GoodMatrix.ev a) ?_
  by_cases h : goodM a = true
  · have hf := goodM_iff h
    refine ev_pos h (ev_bind (spec_GoodMatrix.ev b) ?_)
    by_cases h1 : goodM b = true
    · refine ev_pos h1 (ev_pos (by omega) ?_)
      simp only [rdSS0, Int.toNat_zero]
      by_cases h2 : (a.getD 0 []).length = b.length
      · refine ev_pos (by omega) (ev_bind (spec_l2Product.ev a b ha hb h h1 h2) (ev_now ?_))
        exact (if_pos ⟨h, h1, h2⟩).symm
      · exact ev_neg (by omega) (ev_now (productVal_no (fun z => h2 z.2.2)).symm)
    · exact ev_neg h1 (ev_now (productVal_no (fun z => h1 z.2.1)).symm)
  · exact ev_neg h (ev_now (productVal_no (fun z => h z.1)).symm)

theorem laws_toByteS.ev_l0 (l : List Int) (hl : l.length < 4611686018427387904) : ∀ (n i : Nat) (o : List Int), i + n = l.length → o.length = l.length → o.take i = l.take i →
    Ev (fun k => laws_toByteS.l0 k l o (i : Int)) l
  | 0, i, o, hi, ho, ht => by
    refine Ev.step (fun k => laws_toByteS.l0.eq_2 _ _ _ k) ?_
    refine ev_neg (by omega) (ev_now ?_)
    rw [List.take_of_length_le (by omega), List.take_of_length_le (by omega)] at ht
    exact ht
  | n + 1, i, o, hi, ho, ht => by
    refine Ev.step (fun k => laws_toByteS.l0.eq_2 _ _ _ k) ?_
    refine ev_pos (by omega) (ev_pos (by omega) (ev_pos (by omega) ?_))
    rw [inc (by omega), Int.toNat_natCast]
    refine laws_toByteS.ev_l0 l hl n (i + 1) _ (by omega) (by simpa using ho) ?_
    rw [take_set_succ _ _ _ (by omega), ht, List.take_succ_eq_append_getElem (by omega), rd_get (by omega)]
theorem laws_toByteS.ev (l : List Int) (hl : l.length ≤ 281474976710656) : Ev (fun k => laws_toByteS.f k l) l := by
  unfold laws_toByteS.f
  refine ev_pos (by omega) (ev_pos (by omega) ?_)
  exact laws_toByteS.ev_l0 l (by omega) l.length 0 _ (by omega) (by simp) rfl

theorem laws_toByteSS.ev_l0 (l : List (List Int)) (hl : rowsLe 1048576 l) : ∀ (n i : Nat) (o : List (List Int)), i + n = l.length → o.length = l.length → o.take i = l.take i →
    Ev (fun k => laws_toByteSS.l0 k l o (i : Int)) l
  | 0, i, o, hi, ho, ht => by
    refine Ev.step (fun k => laws_toByteSS.l0.eq_2 _ _ _ k) ?_
    refine ev_neg (by omega) (ev_now ?_)
    rw [List.take_of_length_le (by omega), List.take_of_length_le (by omega)] at ht
    exact ht
  | n + 1, i, o, hi, ho, ht => by
    have h1 := hl.1
    have h2 := hl.2 _ (List.getElem_mem (show i < l.length by omega))
    refine Ev.step (fun k => laws_toByteSS.l0.eq_2 _ _ _ k) ?_
    refine ev_pos (by omega) (ev_pos (by omega) ?_)
    rw [rdSS l i (by omega)]
    refine ev_bind (laws_toByteS.ev _ (by omega)) (ev_pos (by omega) ?_)
    rw [inc (by omega), Int.toNat_natCast]
    refine laws_toByteSS.ev_l0 l hl n (i + 1) _ (by omega) (by simpa using ho) ?_
    have hs : (o.set i l[i]).take (i + 1) = o.take i ++ [l[i]] := by
      rw [List.take_succ_eq_append_getElem (by simp; omega)]
      simp [List.take_set_of_le]
    rw [hs, ht, List.take_succ_eq_append_getElem (by omega)]
theorem laws_toByteSS.ev (l : List (List Int)) (hl : rowsLe 1048576 l) : Ev (fun k => laws_toByteSS.f k l) l := by
  unfold laws_toByteSS.f
  have h1 := hl.1
  refine ev_pos (by omega) (ev_pos (by omega) ?_)
  exact laws_toByteSS.ev_l0 l hl l.length 0 _ (by omega) (by simp) rfl

theorem laws_toMatrix.ev (l : List (List Int)) (hl : rowsLe 1048576 l) : Ev (fun k => laws_toMatrix.f k l) l := by
  unfold laws_toMatrix.f
  exact ev_bind (laws_toByteSS.ev l hl) (ev_now rfl)

theorem impl_within.ev (a b c : Int) : impl_within.f a b c = some (decide (b ≤ a ∧ a ≤ c)) := by
  unfold impl_within.f
  by_cases h : a ≥ b
  · rw [if_pos h]; simp [h]
  · rw [if_neg h]; simp; omega

theorem impl_GoodMatrix.ev (l : List (List Int)) : impl_GoodMatrix.f l = some (goodM l) := rfl

theorem impl_column.ev_l0 (l : List (List Int)) (c j : Nat) (hl : l.length ≤ 1048576) (hj : j < c) (hc : ∀ i, i < l.length → (l.getD i []).length = c) : ∀ (d i : Nat) (o : List Int), i + d = l.length → o = (List.range i).map (fun b => (l.getD b []).getD j 0) →
    Ev (fun k => impl_column.l0 k (j : Int) o l (l.length : Int) (i : Int)) ((List.range l.length).map fun b => (l.getD b []).getD j 0)
  | 0, i, o, hi, ho => by
    refine Ev.step (fun k => impl_column.l0.eq_2 _ _ _ _ _ k) ?_
    refine ev_neg (by omega) (ev_now ?_)
    rw [ho, show i = l.length by omega]
  | d + 1, i, o, hi, ho => by
    have e := hc i (by omega)
    have hol : o.length = i := by rw [ho]; simp
    refine Ev.step (fun k => impl_column.l0.eq_2 _ _ _ _ _ k) ?_
    simp only [rdSS0, Int.toNat_natCast]
    refine ev_pos (by omega) (ev_pos (by omega) (ev_pos (by omega) (ev_pos (by omega) (ev_pos (by omega) (ev_pos (by omega) ?_)))))
    rw [inc (by omega)]
    refine impl_column.ev_l0 l c j hl hj hc d (i + 1) _ (by omega) ?_
    rw [ho, List.range_succ, List.map_append, rd_nat]
    rfl
theorem impl_column.ev (l : List (List Int)) (c j : Nat) (hl : l.length ≤ 1048576) (hj : j < c) (hc : ∀ i, i < l.length → (l.getD i []).length = c) : Ev (fun k => impl_column.f k l (j : Int)) ((List.range l.length).map fun b => (l.getD b []).getD j 0) := by
  unfold impl_column.f
  exact impl_column.ev_l0 l c j hl hj hc l.length 0 [] (by omega) rfl

theorem impl_transposed.ev_l0 (l : List (List Int)) (hg : goodM l = true) : ∀ (d j : Nat) (o : List (List Int)), j + d = (l.getD 0 []).length → o = tab j l.length (fun j i => (l.getD i []).getD j 0) →
    Ev (fun k => impl_transposed.l0 k l o ((l.getD 0 []).length : Int) (j : Int)) (trM l)
  | 0, j, o, hj, ho => by
    refine Ev.step (fun k => impl_transposed.l0.eq_2 _ _ _ _ k) ?_
    refine ev_neg (by omega) (ev_now ?_)
    rw [ho, show j = (l.getD 0 []).length by omega]
    rfl
  | d + 1, j, o, hj, ho => by
    have hf := goodM_iff hg
    have hol : o.length = j := by rw [ho, tab_length]
    refine Ev.step (fun k => impl_transposed.l0.eq_2 _ _ _ _ k) ?_
    refine ev_pos (by omega) (ev_bind (impl_column.ev l _ j (by omega) (by omega) hf.2.2) (ev_pos (by omega) ?_))
    rw [inc (by omega)]
    refine impl_transposed.ev_l0 l hg d (j + 1) _ (by omega) ?_
    rw [ho]
    unfold tab
    rw [List.range_succ, List.map_append]
    rfl
theorem impl_transposed.ev (l : List (List Int)) (hg : goodM l = true) : Ev (fun k => impl_transposed.f k l) (trM l) := by
  have hf := goodM_iff hg
  unfold impl_transposed.f
  refine ev_pos (by omega) ?_
  simp only [rdSS0, Int.toNat_zero]
  exact impl_transposed.ev_l0 l hg (l.getD 0 []).length 0 [] (by omega) rfl

theorem impl_Times.ev_l0 (b : Nat) (hb : b < 256) : ∀ (n i o x : Nat), i + n = 8 → o < 256 → x < 256 →
    Ev (fun k => impl_Times.l0 k (b : Int) (o : Int) (i : Int) (x : Int)) ((T n o x (b / 2 ^ i) : Nat) : Int)
  | 0, i, o, x, hi, ho, hx => by
    refine Ev.step (fun k => impl_Times.l0.eq_2 _ _ _ _ k) ?_
    refine ev_neg (by omega) (ev_now ?_)
    simp only [T]
    omega
  | n + 1, i, o, x, hi, ho, hx => by
    refine Ev.step (fun k => impl_Times.l0.eq_2 _ _ _ _ k) ?_
    refine ev_pos (by omega) (ev_pos (by omega) ?_)
    have e1 : shr .u8 (b : Int) (i : Int) = ((b / 2 ^ i : Nat) : Int) := by
      unfold shr
      rw [Nat.min_eq_left (by simp only [IntKind.bits]; omega)]
      simp
    have hd : b / 2 ^ i < 256 := Nat.lt_of_le_of_lt (Nat.div_le_self _ _) hb
    have e2 : wrap64 ((x : Int) * 2) = ((2 * x : Nat) : Int) := by rw [wrap_id (by omega) (by omega)]; omega
    have e3 : wrap64 ((i : Int) + 1) = ((i + 1 : Nat) : Int) := by rw [wrap_id (by omega) (by omega)]; omega
    rw [e1, and1_u8 hd, e2, e3]
    have e4 : Go.bits .xor .i64 (o : Int) (x : Int) = ((o ^^^ x : Nat) : Int) := xor_i64 (by omega) (by omega)
    have e5 : Go.bits .xor .i64 ((2 * x : Nat) : Int) 283 = ((2 * x ^^^ 283 : Nat) : Int) := xor_i64 (m := 2 * x) (n := 283) (by omega) (by omega)
    have e6 : b / 2 ^ i / 2 = b / 2 ^ (i + 1) := by rw [Nat.div_div_eq_div_mul, Nat.pow_succ]
    rw [e4, e5]
    have hT : T (n + 1) o x (b / 2 ^ i) = T n (if b / 2 ^ i % 2 = 1 then o ^^^ x else o) (xt x) (b / 2 ^ (i + 1)) := by rw [T, e6]
    rw [hT]
    have hxt := xt_lt hx
    have hox := xor_lt ho hx
    by_cases h1 : b / 2 ^ i % 2 = 1
    · rw [if_pos h1]
      refine ev_pos (by omega) ?_
      by_cases h2 : 2 * x > 255
      · refine ev_pos (by omega) ?_
        have : xt x = 2 * x ^^^ 283 := by unfold xt; rw [if_pos h2]
        rw [this] at hxt ⊢
        exact impl_Times.ev_l0 b hb n (i + 1) _ _ (by omega) hox hxt
      · refine ev_neg (by omega) ?_
        have : xt x = 2 * x := by unfold xt; rw [if_neg h2]
        rw [this] at hxt ⊢
        exact impl_Times.ev_l0 b hb n (i + 1) _ _ (by omega) hox hxt
    · rw [if_neg h1]
      refine ev_neg (by omega) ?_
      by_cases h2 : 2 * x > 255
      · refine ev_pos (by omega) ?_
        have : xt x = 2 * x ^^^ 283 := by unfold xt; rw [if_pos h2]
        rw [this] at hxt ⊢
        exact impl_Times.ev_l0 b hb n (i + 1) _ _ (by omega) ho hxt
      · refine ev_neg (by omega) ?_
        have : xt x = 2 * x := by unfold xt; rw [if_neg h2]
        rw [this] at hxt ⊢
        exact impl_Times.ev_l0 b hb n (i + 1) _ _ (by omega) ho hxt
theorem impl_Times.ev {a b : Int} (ha : Byte a) (hb : Byte b) : Ev (fun k => impl_Times.f k a b) (mul a b) := by
  obtain ⟨m, hm, rfl⟩ := ha.nat
  obtain ⟨n, hn, rfl⟩ := hb.nat
  unfold impl_Times.f
  rw [wrap_id (by omega) (by omega)]
  have h := impl_Times.ev_l0 n hn 8 0 0 m rfl (by decide) hm
  exact ev_eq h (by unfold Gf.mul gm; simp)

theorem impl_dot.ev_l0 (v w : List Int) (hv : Bytes v) (hw : Bytes w) (hl : v.length = w.length) (hs : v.length < 140737488355328) : ∀ (n i : Nat) (o : Int), i + n = v.length → Byte o →
    Ev (fun k => impl_dot.l0 k w o v (v.length : Int) (i : Int)) (gx o (dotV (v.drop i) (w.drop i)))
  | 0, i, o, hi, ho => by
    refine Ev.step (fun k => impl_dot.l0.eq_2 _ _ _ _ _ k) ?_
    refine ev_neg (by omega) (ev_now ?_)
    rw [List.drop_of_length_le (by omega)]
    exact (gx_zero ho).symm
  | n + 1, i, o, hi, ho => by
    refine Ev.step (fun k => impl_dot.l0.eq_2 _ _ _ _ _ k) ?_
    refine ev_pos (by omega) (ev_pos (by omega) (ev_pos (by omega) (ev_pos (by omega) ?_)))
    have bv : Byte (rd v (i : Int)) := bytes_rd hv (by omega)
    have bw : Byte (rd w (i : Int)) := bytes_rd hw (by omega)
    refine ev_bind (impl_Times.ev bv bw) ?_
    have bm := Byte.mul bv (rd w (i : Int))
    have bg := Byte.gx ho bm
    rw [inc (by omega), xor_u8 ho bm]
    refine ev_eq (impl_dot.ev_l0 v w hv hw hl hs n (i + 1) _ (by omega) bg) ?_
    rw [drop_cons (l := v) (i := i) (by omega), drop_cons (l := w) (i := i) (by omega), rd_get (by omega), rd_get (by omega), dotV, gx_assoc]
theorem impl_dot.ev {v w : List Int} (hv : Bytes v) (hw : Bytes w) (hl : v.length = w.length) (hs : v.length < 140737488355328) : Ev (fun k => impl_dot.f k v w) (dotV v w) := by
  unfold impl_dot.f
  refine ev_eq (impl_dot.ev_l0 v w hv hw hl hs v.length 0 0 (by omega) .zero) ?_
  exact zero_gx (dotV_byte hv)

theorem impl_product.ev_l1 (a b : List (List Int)) (ha : matBytes a) (hb : matBytes b) (hg : goodM a = true) (hg2 : goodM b = true) (hp : (a.getD 0 []).length = b.length) (i : Nat) (hi : i < a.length) (out : List (List Int)) (ho : out.length < 5864062014805) {R : List (List Int)}
    (K : Ev (fun q => impl_product.l0 q (trM b) (out ++ [(List.range (b.getD 0 []).length).map fun j => prodAt a b i j b.length]) a (a.length : Int) (wrap64 ((i : Int) + 1))) R) : ∀ (d j : Nat) (o : List Int), j + d = (b.getD 0 []).length → o = (List.range j).map (fun j => prodAt a b i j b.length) →
    Ev (fun q => impl_product.l1 q (trM b) out (a.getD i []) o a (a.length : Int) (i : Int) (trM b) ((trM b).length : Int) (j : Int)) R
  | 0, j, o, hj, hoj => by
    have hl : (trM b).length = (b.getD 0 []).length := tab_length _ _ _
    refine Ev.step (fun q => impl_product.l1.eq_2 _ _ _ _ _ _ _ _ _ _ q) ?_
    refine ev_neg (by omega) (ev_pos ho ?_)
    rw [hoj, show j = (b.getD 0 []).length by omega]
    exact K
  | d + 1, j, o, hj, hoj => by
    have hl : (trM b).length = (b.getD 0 []).length := tab_length _ _ _
    have hf := goodM_iff hg2
    have hf1 := goodM_iff hg
    have e := hf1.2.2 i hi
    have hol : o.length = j := by rw [hoj]; simp
    have hrow : (trM b).getD j [] = (List.range b.length).map fun k => (b.getD k []).getD j 0 := tab_getD (by omega)
    refine Ev.step (fun q => impl_product.l1.eq_2 _ _ _ _ _ _ _ _ _ _ q) ?_
    simp only [rdSS0, Int.toNat_natCast]
    refine ev_pos (by omega) (ev_pos (by omega) (ev_pos (by omega) ?_))
    rw [hrow]
    have hd := impl_dot.ev (v := a.getD i []) (w := (List.range b.length).map fun k => (b.getD k []).getD j 0) (matBytes_row ha i) (fun z hz => by
      simp only [List.mem_map] at hz
      obtain ⟨k, _, rfl⟩ := hz
      exact matBytes_get hb k j) (by rw [List.length_map, List.length_range]; omega) (by omega)
    rw [prodM_dot ha (by omega)] at hd
    refine ev_bind hd (ev_pos (by omega) ?_)
    rw [inc (by omega)]
    refine impl_product.ev_l1 a b ha hb hg hg2 hp i hi out ho K d (j + 1) _ (by omega) ?_
    rw [hoj, List.range_succ, List.map_append]
    rfl
theorem impl_product.ev_l0 (a b : List (List Int)) (ha : matBytes a) (hb : matBytes b) (hg : goodM a = true) (hg2 : goodM b = true) (hp : (a.getD 0 []).length = b.length) : ∀ (d i : Nat) (o : List (List Int)), i + d = a.length → o = tab i (b.getD 0 []).length (fun i j => prodAt a b i j b.length) →
    Ev (fun q => impl_product.l0 q (trM b) o a (a.length : Int) (i : Int)) (prodM a b)
  | 0, i, o, hi, ho => by
    refine Ev.step (fun q => impl_product.l0.eq_2 _ _ _ _ _ q) ?_
    refine ev_neg (by omega) (ev_now ?_)
    rw [ho, show i = a.length by omega]
    rfl
  | d + 1, i, o, hi, ho => by
    have hf1 := goodM_iff hg
    have hol : o.length = i := by rw [ho, tab_length]
    have ih := impl_product.ev_l0 a b ha hb hg hg2 hp d (i + 1) (o ++ [(List.range (b.getD 0 []).length).map fun j => prodAt a b i j b.length]) (by omega) (by
      rw [ho]
      unfold tab
      rw [List.range_succ, List.map_append]
      rfl)
    refine Ev.step (fun q => impl_product.l0.eq_2 _ _ _ _ _ q) ?_
    simp only [rdSS0, Int.toNat_natCast]
    refine ev_pos (by omega) (ev_pos (by omega) (ev_pos (by omega) ?_))
    exact impl_product.ev_l1 a b ha hb hg hg2 hp i (by omega) o (by omega) (by rw [inc (by omega)]; exact ih) (b.getD 0 []).length 0 [] (by omega) rfl
theorem impl_product.ev (a b : List (List Int)) (ha : matBytes a) (hb : matBytes b) (hg : goodM a = true) (hg2 : goodM b = true) (hp : (a.getD 0 []).length = b.length) : Ev (fun q => impl_product.f q a b) (prodM a b) := by
  unfold impl_product.f
  refine ev_bind (impl_transposed.ev b hg2) ?_
  exact impl_product.ev_l0 a b ha hb hg hg2 hp a.length 0 [] (by omega) rfl

theorem impl_Product.ev (a b : List (List Int)) (ha : matBytes a) (hb : matBytes b) : Ev (fun q => impl_Product.f q a b) (productVal a b) := by
  unfold impl_Product.f
  simp only [impl_GoodMatrix.ev, Option.bind_some]
  by_cases h : goodM a = true
  · have hf := goodM_iff h
    refine ev_pos h ?_
    by_cases h1 : goodM b = true
    · refine ev_pos h1 (ev_pos (by omega) ?_)
      simp only [rdSS0, Int.toNat_zero]
      by_cases h2 : (a.getD 0 []).length = b.length
      · refine ev_pos (by omega) (ev_bind (impl_product.ev a b ha hb h h1 h2) (ev_now ?_))
        exact (if_pos ⟨h, h1, h2⟩).symm
      · exact ev_neg (by omega) (ev_now (productVal_no (fun z => h2 z.2.2)).symm)
    · exact ev_neg h1 (ev_now (productVal_no (fun z => h1 z.2.1)).symm)
  · exact ev_neg h (ev_now (productVal_no (fun z => h z.1)).symm)

theorem productVal_rows (a b : List (List Int)) : rowsLe 16 (productVal a b).1 := by
  unfold productVal
  split
  · rename_i h
    have ha := goodM_iff h.1
    have hb := goodM_iff h.2.1
    exact tab_rows _ (by omega) (by omega)
  · exact nil_rows 16
theorem FnExactProduct : ∀ (a b : List (List Int)), (a.length ≤ maxLen ∧ ∀ r ∈ a, (r.length ≤ maxLen ∧ ∀ x ∈ r, (Lit.int .u8 x).wf = true)) → (b.length ≤ maxLen ∧ ∀ r ∈ b, (r.length ≤ maxLen ∧ ∀ x ∈ r, (Lit.int .u8 x).wf = true)) → laws_FnExactProduct.Facts a b := by
  intro a b ha hb
  have hsz := laws_szMatrix.ev a ha.1 (fun r hr => (ha.2 r hr).1) 1048576 (by decide) (by decide)
  by_cases h : (a.length : Int) + (totSS a : Int) ≤ 1048576
  · rw [if_pos h] at hsz
    have hra := rowsLe_of h
    have hsz2 := laws_szMatrix.ev b hb.1 (fun r hr => (hb.2 r hr).1) (1048576 - (a.length : Int) - (totSS a : Int)) (by omega) (by omega)
    by_cases h2 : (b.length : Int) + (totSS b : Int) ≤ 1048576 - (a.length : Int) - (totSS a : Int)
    · rw [if_pos h2] at hsz2
      have hrb := rowsLe_of (show (b.length : Int) + (totSS b : Int) ≤ 1048576 by omega)
      have hz := productVal_rows a b
      refine .inr (.inr ⟨_, _, (productVal a b).1, (productVal a b).2, a, b, Ev.rounds hsz, by omega, Ev.rounds hsz2, by omega, Ev.rounds (laws_toMatrix.ev a hra), Ev.rounds (laws_toMatrix.ev b hrb), ?_⟩)
      have hR : rowsLe 1048576 (productVal a b).1 := ⟨by have := hz.1; omega, fun r hr => by have := hz.2 r hr; omega⟩
      have ht := totSS_small (by decide) hz
      have ht2 := totSS_small (by decide) hra
      have ht3 := totSS_small (by decide) hrb
      have hma : matBytes a := fun r hr => Bytes.of_wf (ha.2 r hr).2
      have hmb : matBytes b := fun r hr => Bytes.of_wf (hb.2 r hr).2
      have hs := spec_Product.ev a b hma hmb
      have hi := impl_Product.ev a b hma hmb
      generalize productVal a b = v at *
      obtain ⟨R, c⟩ := v
      dsimp only at *
      exact ⟨Ev.rounds hs, Ev.rounds hi, Ev.rounds (laws_eqMatrix.ev R hR), Ev.rounds (laws_eqMatrix.ev a hra), Ev.rounds (laws_eqMatrix.ev b hrb), Ev.rounds (laws_heldMatrix.ev R 1 (by decide) (by omega) (by omega)),
        fun l a h1 h2 => Ev.rounds (laws_markByteS.ev l a h1 h2), ht2, ht3, ht⟩
    · rw [if_neg h2] at hsz2
      exact .inr (.inl ⟨_, _, Ev.rounds hsz, by omega, Ev.rounds hsz2, by decide⟩)
  · rw [if_neg h] at hsz
    exact .inl ⟨_, Ev.rounds hsz, by decide⟩

end Go.Proofs.Ytlmcobjpmonkfaa.Pure
