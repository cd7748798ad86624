/- The given program's Transposed returns what the reference's Transposed returns, for all matrices, leaves the matrix as it was, and what it returns is its own; there is no condition. -/
import Derived.Test.YtggiajjnfldkgaaPFnExactTransposedx
import Derived.Test.YtggiajjnfldkgaaWalkFnExactTransposed
import Derived.Test.YtggiajjnfldkgaaKit
namespace Go.Proofs.Ytggiajjnfldkgaa.Pure
open Go.RowKit Go.Proofs.Ytggiajjnfldkgaa.PFnExactTransposed Go.Proofs.YtggiajjnfldkgaaW.PrintWords Go.Proofs.YtggiajjnfldkgaaW.PrintLast Go.Proofs.Ytggiajjnfldkgaa.Gf Go.Proofs.Ytggiajjnfldkgaa.Kit
set_option linter.unusedVariables false
set_option linter.unusedSimpArgs false

theorem rdSS (l : List (List Int)) (i : Nat) (h : i < l.length) : rd_L1 l (i : Int) = l[i] := by unfold rd_L1; simp [List.getD, h]
theorem rdSS0 (l : List (List Int)) (i : Int) : rd_L1 l i = l.getD i.toNat [] := rfl
theorem laws_eqByteS.ev_l0 (l : List Int) (hl : l.length < 4611686018427387904) : ∀ (n i : Nat), i + n = l.length → Ev (fun k => laws_eqByteS.l0 k l l (i : Int)) true
  | 0, i, hi => by
    refine Ev.step (fun k => laws_eqByteS.l0.eq_2 _ _ _ k) ?_
    exact ev_neg (by omega) (ev_now rfl)
  | n + 1, i, hi => by
    refine Ev.step (fun k => laws_eqByteS.l0.eq_2 _ _ _ k) ?_
    refine ev_pos (by omega) (ev_pos (by omega) (ev_pos (by omega) (ev_pos rfl ?_)))
    rw [inc (by omega)]
    exact laws_eqByteS.ev_l0 l hl n (i + 1) (by omega)
theorem laws_eqByteS.ev (l : List Int) (hl : l.length ≤ 281474976710656) : Ev (fun k => laws_eqByteS.f k l l) true := by
  unfold laws_eqByteS.f
  exact ev_pos rfl (laws_eqByteS.ev_l0 l (by omega) l.length 0 (by omega))

theorem laws_eqByteSS.ev_l0 (l : List (List Int)) (hl : rowsLe 1048576 l) : ∀ (n i : Nat), i + n = l.length → Ev (fun k => laws_eqByteSS.l0 k l l (i : Int)) true
  | 0, i, hi => by
    refine Ev.step (fun k => laws_eqByteSS.l0.eq_2 _ _ _ k) ?_
    exact ev_neg (by omega) (ev_now rfl)
  | n + 1, i, hi => by
    have h1 := hl.1
    have h2 := hl.2 _ (List.getElem_mem (show i < l.length by omega))
    refine Ev.step (fun k => laws_eqByteSS.l0.eq_2 _ _ _ k) ?_
    refine ev_pos (by omega) (ev_pos (by omega) (ev_pos (by omega) ?_))
    rw [rdSS l i (by omega), inc (by omega)]
    exact ev_bind (laws_eqByteS.ev _ (by omega)) (ev_pos rfl (laws_eqByteSS.ev_l0 l hl n (i + 1) (by omega)))
theorem laws_eqByteSS.ev (l : List (List Int)) (hl : rowsLe 1048576 l) : Ev (fun k => laws_eqByteSS.f k l l) true := by
  unfold laws_eqByteSS.f
  exact ev_pos rfl (laws_eqByteSS.ev_l0 l hl l.length 0 (by omega))

theorem laws_eqMatrix.ev (l : List (List Int)) (hl : rowsLe 1048576 l) : Ev (fun k => laws_eqMatrix.f k l l) true := by
  unfold laws_eqMatrix.f
  exact ev_bind (laws_eqByteSS.ev l hl) (ev_pos rfl (ev_now rfl))

theorem laws_markByteS.ev_l0 (a : Int) (m : Nat) (ha : 0 ≤ a) (hm : a + m < 4611686018427387904) : ∀ (n i : Nat) (o : List Int), i + n = m → o.length = m → o.take i = (markB a m).take i →
    Ev (fun k => laws_markByteS.l0 k o (a + (i : Nat)) (i : Int)) (a + (m : Nat), markB a m)
  | 0, i, o, hi, ho, ht => by
    refine Ev.step (fun k => laws_markByteS.l0.eq_2 _ _ _ k) ?_
    refine ev_neg (by omega) (ev_now ?_)
    have hb := markB_length a m
    rw [List.take_of_length_le (by omega), List.take_of_length_le (by omega)] at ht
    subst ht
    have : i = m := by omega
    rw [this]
  | n + 1, i, o, hi, ho, ht => by
    refine Ev.step (fun k => laws_markByteS.l0.eq_2 _ _ _ k) ?_
    refine ev_pos (by omega) (ev_pos (by omega) ?_)
    have e : wrap64 (a + (i : Nat) + 1) = a + ((i + 1 : Nat) : Int) := by unfold wrap64; omega
    rw [inc (by omega), e, Int.toNat_natCast]
    refine laws_markByteS.ev_l0 a m ha hm n (i + 1) _ (by omega) (by simpa using ho) ?_
    have hb := markB_length a m
    rw [take_set_succ _ _ _ (by omega), ht, List.take_succ_eq_append_getElem (by omega), markB_get]
theorem laws_markByteS.ev (l : List Int) (a : Int) (ha : 0 ≤ a) (hm : a + l.length < 4611686018427387904) : Ev (fun k => laws_markByteS.f k l a) (a + (l.length : Nat), markB a l.length) := by
  unfold laws_markByteS.f
  have := laws_markByteS.ev_l0 a l.length ha hm l.length 0 l (by omega) rfl rfl
  simpa using this

theorem laws_heldByteS.ev_l0 (a : Int) (m : Nat) (ha : 0 ≤ a) (hm : a + m < 4611686018427387904) : ∀ (n i : Nat), i + n = m →
    Ev (fun k => laws_heldByteS.l0 k (markB a m) (a + (i : Nat)) (i : Int)) (a + (m : Nat))
  | 0, i, hi => by
    have hb := markB_length a m
    refine Ev.step (fun k => laws_heldByteS.l0.eq_2 _ _ _ k) ?_
    refine ev_neg (by omega) (ev_now ?_)
    have : i = m := by omega
    rw [this]
  | n + 1, i, hi => by
    have hb := markB_length a m
    refine Ev.step (fun k => laws_heldByteS.l0.eq_2 _ _ _ k) ?_
    refine ev_pos (by omega) (ev_pos (by omega) (ev_pos (by rw [rd_get (by omega), markB_get]) ?_))
    have e : wrap64 (a + (i : Nat) + 1) = a + ((i + 1 : Nat) : Int) := by unfold wrap64; omega
    rw [inc (by omega), e]
    exact laws_heldByteS.ev_l0 a m ha hm n (i + 1) (by omega)
theorem laws_heldByteS.ev (a : Int) (m : Nat) (ha : 0 ≤ a) (hm : a + m < 4611686018427387904) : Ev (fun k => laws_heldByteS.f k (markB a m) a) (a + (m : Nat)) := by
  unfold laws_heldByteS.f
  have := laws_heldByteS.ev_l0 a m ha hm m 0 (by omega)
  simpa using this

theorem markSS_get (R : List (List Int)) : ∀ (a : Int) (i : Nat) (h : i < R.length), (markSS a R)[i]'(by rw [markSS_length]; exact h) = markB (a + (totSS (R.take i) : Nat)) (R[i]).length := by
  induction R with
  | nil => intro a i h; simp at h
  | cons r R ih =>
    intro a i h
    cases i with
    | zero => simp [markSS, totSS]
    | succ i =>
      have := ih (a + (r.length : Nat)) i (by simpa using h)
      simp only [markSS, List.getElem_cons_succ, List.take_succ_cons, totSS] at this ⊢
      rw [this]
      congr 1
      omega
theorem laws_heldByteSS.ev_l0 (R : List (List Int)) (a : Int) (ha : 0 ≤ a) (hm : a + (totSS R : Nat) < 4611686018427387904) (hl : R.length < 4611686018427387904) : ∀ (n i : Nat), i + n = R.length →
    Ev (fun k => laws_heldByteSS.l0 k (markSS a R) (a + (totSS (R.take i) : Nat)) (i : Int)) (a + (totSS R : Nat))
  | 0, i, hi => by
    have hb := markSS_length a R
    refine Ev.step (fun k => laws_heldByteSS.l0.eq_2 _ _ _ k) ?_
    refine ev_neg (by omega) (ev_now ?_)
    rw [List.take_of_length_le (by omega)]
  | n + 1, i, hi => by
    have hb := markSS_length a R
    have hlt : i < R.length := by omega
    have htake : totSS (R.take (i + 1)) = totSS (R.take i) + R[i].length := by
      rw [List.take_succ_eq_append_getElem hlt, totSS_append]; simp [totSS]
    have hle : totSS (R.take (i + 1)) ≤ totSS R := by
      have e := congrArg totSS (List.take_append_drop (i + 1) R)
      rw [totSS_append] at e
      omega
    have ih := laws_heldByteSS.ev_l0 R a ha hm hl n (i + 1) (by omega)
    rw [htake] at ih
    refine Ev.step (fun k => laws_heldByteSS.l0.eq_2 _ _ _ k) ?_
    refine ev_pos (by omega) (ev_pos (by omega) ?_)
    rw [rdSS _ i (by omega), markSS_get R a i hlt, inc (by omega)]
    refine ev_bind (laws_heldByteS.ev _ _ (by omega) (by omega)) (ev_neg (by omega) (ev_eq ?_ rfl))
    have e : a + ((totSS (R.take i) + R[i].length : Nat) : Int) = a + (totSS (R.take i) : Nat) + (R[i].length : Nat) := by omega
    rw [e] at ih
    exact ih
theorem laws_heldByteSS.ev (R : List (List Int)) (a : Int) (ha : 0 ≤ a) (hm : a + (totSS R : Nat) < 4611686018427387904) (hl : R.length < 4611686018427387904) : Ev (fun k => laws_heldByteSS.f k (markSS a R) a) (a + (totSS R : Nat)) := by
  unfold laws_heldByteSS.f
  have := laws_heldByteSS.ev_l0 R a ha hm hl R.length 0 (by omega)
  simpa [totSS] using this

theorem laws_heldMatrix.ev (R : List (List Int)) (a : Int) (ha : 0 ≤ a) (hm : a + (totSS R : Nat) < 4611686018427387904) (hl : R.length < 4611686018427387904) : Ev (fun k => laws_heldMatrix.f k (markSS a R) a) (a + (totSS R : Nat)) := by
  unfold laws_heldMatrix.f
  exact ev_bind (laws_heldByteSS.ev R a ha hm hl) (ev_neg (by omega) (ev_now rfl))

theorem laws_szByteS.ev (l : List Int) (a : Int) (hl : l.length ≤ maxLen) (h1 : 0 ≤ a) (h2 : a ≤ 1048576) : laws_szByteS.f l a = some (if (l.length : Int) ≤ a then a - (l.length : Int) else -1) := by
  unfold laws_szByteS.f
  unfold maxLen at hl
  have e : wrap64 (a - (l.length : Int)) = a - (l.length : Int) := by unfold wrap64; omega
  rw [e]
  by_cases h : (l.length : Int) ≤ a
  · rw [if_neg (by omega), if_pos h]
  · rw [if_pos (by omega), if_neg h]

theorem laws_szByteSS.ev_l0 (l : List (List Int)) (hl : l.length ≤ 1048576) (hr : ∀ r ∈ l, r.length ≤ maxLen) : ∀ (n i : Nat) (t : Int), i + n = l.length → 0 ≤ t → t ≤ 1048576 →
    Ev (fun k => laws_szByteSS.l0 k l t (i : Int)) (if (totSS (l.drop i) : Int) ≤ t then t - (totSS (l.drop i) : Int) else -1)
  | 0, i, t, hi, h0, h1 => by
    refine Ev.step (fun k => laws_szByteSS.l0.eq_2 _ _ _ k) ?_
    refine ev_neg (by omega) (ev_now ?_)
    rw [List.drop_of_length_le (by omega)]
    simp [totSS, h0]
  | n + 1, i, t, hi, h0, h1 => by
    have hlt : i < l.length := by omega
    have hm : i < 4611686018427387904 := by omega
    have he : totSS (l.drop i) = l[i].length + totSS (l.drop (i + 1)) := by rw [List.drop_eq_getElem_cons hlt]; rfl
    refine Ev.step (fun k => laws_szByteSS.l0.eq_2 _ _ _ k) ?_
    refine ev_pos (by omega) (ev_pos (by omega) ?_)
    rw [rdSS l i hlt, he]
    simp only [laws_szByteS.ev l[i] t (hr _ (List.getElem_mem hlt)) h0 h1, Option.bind_some]
    by_cases h : ((l[i]).length : Int) ≤ t
    · rw [if_pos h]
      refine ev_neg (by omega) ?_
      rw [inc hm]
      refine ev_eq (laws_szByteSS.ev_l0 l hl hr n (i + 1) (t - ((l[i]).length : Int)) (by omega) (by omega) (by omega)) ?_
      by_cases h2 : (totSS (l.drop (i + 1)) : Int) ≤ t - ((l[i]).length : Int)
      · rw [if_pos h2, if_pos (by omega)]; omega
      · rw [if_neg h2, if_neg (by omega)]
    · rw [if_neg h]
      refine ev_pos (by omega) (ev_now ?_)
      rw [if_neg (by omega)]
theorem laws_szByteSS.ev (l : List (List Int)) (hl : l.length ≤ maxLen) (hr : ∀ r ∈ l, r.length ≤ maxLen) (t : Int) (h0 : 0 ≤ t) (h1 : t ≤ 1048576) :
    Ev (fun k => laws_szByteSS.f k l t) (if (l.length : Int) + (totSS l : Int) ≤ t then t - (l.length : Int) - (totSS l : Int) else -1) := by
  unfold laws_szByteSS.f
  have e : wrap64 (t - (l.length : Int)) = t - (l.length : Int) := by unfold maxLen at hl; unfold wrap64; omega
  rw [e]
  by_cases h : (l.length : Int) ≤ t
  · refine ev_neg (by omega) (ev_eq (laws_szByteSS.ev_l0 l (by omega) hr l.length 0 _ (by omega) (by omega) (by omega)) ?_)
    rw [List.drop_zero]
    by_cases h2 : (totSS l : Int) ≤ t - (l.length : Int)
    · rw [if_pos h2, if_pos (by omega)]
    · rw [if_neg h2, if_neg (by omega)]
  · refine ev_pos (by omega) (ev_now ?_)
    rw [if_neg (by omega)]
theorem mem_totSS {l : List (List Int)} {r : List Int} (h : r ∈ l) : r.length ≤ totSS l := by
  induction l with
  | nil => simp at h
  | cons x l ih =>
    rcases List.mem_cons.1 h with rfl | h
    · simp [totSS]
    · have := ih h; simp only [totSS]; omega
theorem rowsLe_of {l : List (List Int)} (h : (l.length : Int) + (totSS l : Int) ≤ 1048576) : rowsLe 1048576 l := ⟨by omega, fun r hr => by have := mem_totSS hr; omega⟩

theorem laws_szMatrix.ev (l : List (List Int)) (hl : l.length ≤ maxLen) (hr : ∀ r ∈ l, r.length ≤ maxLen) (t : Int) (h0 : 0 ≤ t) (h1 : t ≤ 1048576) :
    Ev (fun k => laws_szMatrix.f k l t) (if (l.length : Int) + (totSS l : Int) ≤ t then t - (l.length : Int) - (totSS l : Int) else -1) := by
  unfold laws_szMatrix.f
  refine ev_bind (laws_szByteSS.ev l hl hr t h0 h1) ?_
  by_cases h : (l.length : Int) + (totSS l : Int) ≤ t
  · rw [if_pos h]; exact ev_neg (by omega) (ev_now rfl)
  · rw [if_neg h]; exact ev_pos (by omega) (ev_now rfl)

theorem spec_l1In.ev (a b c : Int) : spec_l1In.f a b c = some (decide (b ≤ a ∧ a ≤ c)) := by
  unfold spec_l1In.f
  by_cases h : a ≥ b
  · rw [if_pos h]; simp [h]
  · rw [if_neg h]; simp; omega

theorem goodM_first {l : List (List Int)} (h1 : 1 ≤ l.length ∧ l.length ≤ 16) (h2 : 1 ≤ (l.getD 0 []).length ∧ (l.getD 0 []).length ≤ 16) : goodM l = !((List.range l.length).any fun i => (l.getD i []).length != (l.getD 0 []).length) := by
  unfold goodM
  rw [decide_eq_true (show 1 ≤ l.length ∧ l.length ≤ 16 ∧ 1 ≤ (l.getD 0 []).length ∧ (l.getD 0 []).length ≤ 16 from ⟨h1.1, h1.2, h2⟩), Bool.true_and]
theorem goodM_no {l : List (List Int)} (h : ¬ (1 ≤ l.length ∧ l.length ≤ 16 ∧ 1 ≤ (l.getD 0 []).length ∧ (l.getD 0 []).length ≤ 16)) : goodM l = false := by
  unfold goodM
  rw [decide_eq_false h, Bool.false_and]
theorem spec_GoodMatrix.ev_l0 (l : List (List Int)) (h1 : 1 ≤ l.length ∧ l.length ≤ 16) (h2 : 1 ≤ (l.getD 0 []).length ∧ (l.getD 0 []).length ≤ 16) : ∀ (n i : Nat), i + n = l.length → (∀ j, j < i → (l.getD j []).length = (l.getD 0 []).length) →
    Ev (fun k => spec_GoodMatrix.l0 k l (l.length : Int) (i : Int) l) (goodM l)
  | 0, i, hi, ha => by
    refine Ev.step (fun k => spec_GoodMatrix.l0.eq_2 _ _ _ _ k) ?_
    refine ev_neg (by omega) (ev_now ?_)
    rw [goodM_first h1 h2]
    have : ((List.range l.length).any fun i => (l.getD i []).length != (l.getD 0 []).length) = false := by
      rw [List.any_eq_false]
      intro x hx
      have hx' : x < l.length := by simpa using hx
      simp only [ha x (by omega), bne_self_eq_false]
      simp
    rw [this]; rfl
  | n + 1, i, hi, ha => by
    refine Ev.step (fun k => spec_GoodMatrix.l0.eq_2 _ _ _ _ k) ?_
    refine ev_pos (by omega) (ev_pos (by omega) (ev_pos (by omega) (ev_pos (by omega) ?_)))
    simp only [rdSS0, Int.toNat_natCast, Int.toNat_zero]
    by_cases h : (l.getD i []).length = (l.getD 0 []).length
    · refine ev_pos (by omega) ?_
      rw [inc (by omega)]
      exact spec_GoodMatrix.ev_l0 l h1 h2 n (i + 1) (by omega) (fun j hj => by by_cases e : j = i; exact e ▸ h; exact ha j (by omega))
    · refine ev_neg (by omega) (ev_now ?_)
      rw [goodM_first h1 h2]
      have : ((List.range l.length).any fun i => (l.getD i []).length != (l.getD 0 []).length) = true := List.any_eq_true.2 ⟨i, by simp; omega, by simpa using h⟩
      rw [this]; rfl
theorem spec_GoodMatrix.ev (l : List (List Int)) : Ev (fun k => spec_GoodMatrix.f k l) (goodM l) := by
  unfold spec_GoodMatrix.f
  simp only [spec_l1In.ev, Option.bind_some, decide_eq_true_eq, rdSS0, Int.toNat_zero]
  by_cases h1 : 1 ≤ (l.length : Int) ∧ (l.length : Int) ≤ 16
  · refine ev_pos h1 (ev_pos (by omega) ?_)
    by_cases h2 : 1 ≤ ((l.getD 0 []).length : Int) ∧ ((l.getD 0 []).length : Int) ≤ 16
    · rw [decide_eq_true h2]
      refine Ev.step (fun k => spec_GoodMatrix.j0.eq_2 _ _ k) (ev_neg (by simp) ?_)
      exact spec_GoodMatrix.ev_l0 l (by omega) (by omega) l.length 0 (by omega) (fun j hj => absurd hj (by omega))
    · rw [decide_eq_false h2]
      refine Ev.step (fun k => spec_GoodMatrix.j0.eq_2 _ _ k) (ev_pos rfl (ev_now ?_))
      exact (goodM_no (by omega)).symm
  · refine ev_neg h1 ?_
    refine Ev.step (fun k => spec_GoodMatrix.j0.eq_2 _ _ k) (ev_pos rfl (ev_now ?_))
    exact (goodM_no (by omega)).symm

theorem spec_l2Blank.ev_l0 (n m : Nat) (hn : n ≤ 1048576) (hm : m ≤ 1048576) : ∀ (d i : Nat), i + d = n → Ev (fun k => spec_l2Blank.l0 k (n : Int) (m : Int) (i : Int) (blankM i m)) (blankM n m)
  | 0, i, hi => by
    obtain rfl : i = n := by omega
    refine Ev.step (fun k => spec_l2Blank.l0.eq_2 _ _ _ _ k) ?_
    exact ev_neg (by omega) (ev_now rfl)
  | d + 1, i, hi => by
    have ih := spec_l2Blank.ev_l0 n m hn hm d (i + 1) (by omega)
    refine Ev.step (fun k => spec_l2Blank.l0.eq_2 _ _ _ _ k) ?_
    refine ev_pos (by omega) (ev_pos (by omega) (ev_pos (by omega) (ev_pos (by simp [blankM]; omega) ?_)))
    rw [inc (by omega), Int.toNat_natCast]
    have e : blankM i m ++ [List.replicate m 0] = blankM (i + 1) m := by
      unfold blankM; rw [List.replicate_succ']
    rw [e]
    exact ih
theorem spec_l2Blank.ev (n m : Nat) (hn : n ≤ 1048576) (hm : m ≤ 1048576) : Ev (fun k => spec_l2Blank.f k (n : Int) (m : Int)) (blankM n m) := by
  unfold spec_l2Blank.f
  exact spec_l2Blank.ev_l0 n m hn hm n 0 (by omega)

def trPart (l : List (List Int)) (i j : Nat) : List (List Int) := tab (l.getD 0 []).length l.length fun a b => if b < i ∨ b = i ∧ a < j then (l.getD b []).getD a 0 else 0
theorem trPart_next (l : List (List Int)) (i : Nat) : trPart l i (l.getD 0 []).length = trPart l (i + 1) 0 := by
  apply tab_congr
  intro a ha b hb
  by_cases h : b < i ∨ b = i ∧ a < (l.getD 0 []).length
  · rw [if_pos h, if_pos (by omega)]
  · rw [if_neg h, if_neg (by omega)]
theorem spec_l2Transposed.ev_l1 (l : List (List Int)) (hg : goodM l = true) (i : Nat) (hi : i < l.length) {R : List (List Int)}
    (K : Ev (fun k => spec_l2Transposed.l0 k l (l.length : Int) ((i + 1 : Nat) : Int) (trPart l (i + 1) 0)) R) : ∀ (d j : Nat), j + d = (l.getD 0 []).length →
    Ev (fun k => spec_l2Transposed.l1 k (i : Int) l (l.length : Int) (i : Int) (l.getD i []) ((l.getD i []).length : Int) (j : Int) (trPart l i j)) R
  | 0, j, hj => by
    have hf := goodM_iff hg
    refine Ev.step (fun k => spec_l2Transposed.l1.eq_2 _ _ _ _ _ _ _ _ k) ?_
    have e := hf.2.2 i hi
    refine ev_neg (by omega) ?_
    rw [inc (by omega), show j = (l.getD 0 []).length by omega, trPart_next]
    exact K
  | d + 1, j, hj => by
    have hf := goodM_iff hg
    have e := hf.2.2 i hi
    have hlen : (trPart l i j).length = (l.getD 0 []).length := tab_length _ _ _
    have hrow : ((trPart l i j).getD j []).length = l.length := tab_getD_length (by omega)
    refine Ev.step (fun k => spec_l2Transposed.l1.eq_2 _ _ _ _ _ _ _ _ k) ?_
    simp only [rdSS0, Int.toNat_natCast]
    refine ev_pos (by omega) (ev_pos (by omega) (ev_pos (by omega) (ev_pos (by omega) (ev_pos (by omega) (ev_pos (by omega) ?_)))))
    rw [inc (by omega)]
    have hs : (trPart l i j).set j (((trPart l i j).getD j []).set i (rd (l.getD i []) (j : Int))) = trPart l i (j + 1) := by
      unfold trPart
      rw [tab_set (by omega)]
      apply tab_congr
      intro a ha b hb
      by_cases h : a = j ∧ b = i
      · obtain ⟨rfl, rfl⟩ := h
        rw [if_pos ⟨rfl, rfl⟩, if_pos (by omega), rd_nat]
      · rw [if_neg h]
        by_cases h2 : b < i ∨ b = i ∧ a < j
        · rw [if_pos h2, if_pos (by omega)]
        · rw [if_neg h2, if_neg (by omega)]
    rw [hs]
    exact spec_l2Transposed.ev_l1 l hg i hi K d (j + 1) (by omega)
theorem spec_l2Transposed.ev_l0 (l : List (List Int)) (hg : goodM l = true) : ∀ (d i : Nat), i + d = l.length → Ev (fun k => spec_l2Transposed.l0 k l (l.length : Int) (i : Int) (trPart l i 0)) (trM l)
  | 0, i, hi => by
    refine Ev.step (fun k => spec_l2Transposed.l0.eq_2 _ _ _ _ k) ?_
    refine ev_neg (by omega) (ev_now ?_)
    apply tab_congr
    intro a ha b hb
    rw [if_pos (by omega)]
  | d + 1, i, hi => by
    have ih := spec_l2Transposed.ev_l0 l hg d (i + 1) (by omega)
    have hf := goodM_iff hg
    refine Ev.step (fun k => spec_l2Transposed.l0.eq_2 _ _ _ _ k) ?_
    refine ev_pos (by omega) (ev_pos (by omega) (ev_pos (by omega) ?_))
    simp only [rdSS0, Int.toNat_natCast]
    exact spec_l2Transposed.ev_l1 l hg i (by omega) ih (l.getD 0 []).length 0 (by omega)
theorem spec_l2Transposed.ev (l : List (List Int)) (hg : goodM l = true) : Ev (fun k => spec_l2Transposed.f k l) (trM l) := by
  have hf := goodM_iff hg
  unfold spec_l2Transposed.f
  refine ev_pos (by omega) ?_
  simp only [rdSS0, Int.toNat_zero]
  refine ev_bind (spec_l2Blank.ev _ _ (by omega) (by omega)) ?_
  have e : blankM (l.getD 0 []).length l.length = trPart l 0 0 := by
    rw [tab_blank]
    apply tab_congr
    intro a ha b hb
    rw [if_neg (by omega)]
  rw [e]
  exact spec_l2Transposed.ev_l0 l hg l.length 0 (by omega)

def transVal (l : List (List Int)) : List (List Int) × Bool := if goodM l = true then (trM l, true) else ([], false)
theorem spec_Transposed.ev (l : List (List Int)) : Ev (fun k => spec_Transposed.f k l) (transVal l) := by
  unfold spec_Transposed.f transVal
  refine ev_bind (spec_GoodMatrix.ev l) ?_
  by_cases h : goodM l = true
  · rw [if_pos h]
    exact ev_pos h (ev_bind (spec_l2Transposed.ev l h) (ev_now rfl))
  · rw [if_neg h]
    exact ev_neg h (ev_now rfl)

theorem laws_toByteS.ev_l0 (l : List Int) (hl : l.length < 4611686018427387904) : ∀ (n i : Nat) (o : List Int), i + n = l.length → o.length = l.length → o.take i = l.take i →
    Ev (fun k => laws_toByteS.l0 k l o (i : Int)) l
  | 0, i, o, hi, ho, ht => by
    refine Ev.step (fun k => laws_toByteS.l0.eq_2 _ _ _ k) ?_
    refine ev_neg (by omega) (ev_now ?_)
    rw [List.take_of_length_le (by omega), List.take_of_length_le (by omega)] at ht
    exact ht
  | n + 1, i, o, hi, ho, ht => by
    refine Ev.step (fun k => laws_toByteS.l0.eq_2 _ _ _ k) ?_
    refine ev_pos (by omega) (ev_pos (by omega) (ev_pos (by omega) ?_))
    rw [inc (by omega), Int.toNat_natCast]
    refine laws_toByteS.ev_l0 l hl n (i + 1) _ (by omega) (by simpa using ho) ?_
    rw [take_set_succ _ _ _ (by omega), ht, List.take_succ_eq_append_getElem (by omega), rd_get (by omega)]
theorem laws_toByteS.ev (l : List Int) (hl : l.length ≤ 281474976710656) : Ev (fun k => laws_toByteS.f k l) l := by
  unfold laws_toByteS.f
  refine ev_pos (by omega) (ev_pos (by omega) ?_)
  exact laws_toByteS.ev_l0 l (by omega) l.length 0 _ (by omega) (by simp) rfl

theorem laws_toByteSS.ev_l0 (l : List (List Int)) (hl : rowsLe 1048576 l) : ∀ (n i : Nat) (o : List (List Int)), i + n = l.length → o.length = l.length → o.take i = l.take i →
    Ev (fun k => laws_toByteSS.l0 k l o (i : Int)) l
  | 0, i, o, hi, ho, ht => by
    refine Ev.step (fun k => laws_toByteSS.l0.eq_2 _ _ _ k) ?_
    refine ev_neg (by omega) (ev_now ?_)
    rw [List.take_of_length_le (by omega), List.take_of_length_le (by omega)] at ht
    exact ht
  | n + 1, i, o, hi, ho, ht => by
    have h1 := hl.1
    have h2 := hl.2 _ (List.getElem_mem (show i < l.length by omega))
    refine Ev.step (fun k => laws_toByteSS.l0.eq_2 _ _ _ k) ?_
    refine ev_pos (by omega) (ev_pos (by omega) ?_)
    rw [rdSS l i (by omega)]
    refine ev_bind (laws_toByteS.ev _ (by omega)) (ev_pos (by omega) ?_)
    rw [inc (by omega), Int.toNat_natCast]
    refine laws_toByteSS.ev_l0 l hl n (i + 1) _ (by omega) (by simpa using ho) ?_
    have hs : (o.set i l[i]).take (i + 1) = o.take i ++ [l[i]] := by
      rw [List.take_succ_eq_append_getElem (by simp; omega)]
      simp [List.take_set_of_le]
    rw [hs, ht, List.take_succ_eq_append_getElem (by omega)]
theorem laws_toByteSS.ev (l : List (List Int)) (hl : rowsLe 1048576 l) : Ev (fun k => laws_toByteSS.f k l) l := by
  unfold laws_toByteSS.f
  have h1 := hl.1
  refine ev_pos (by omega) (ev_pos (by omega) ?_)
  exact laws_toByteSS.ev_l0 l hl l.length 0 _ (by omega) (by simp) rfl

theorem laws_toMatrix.ev (l : List (List Int)) (hl : rowsLe 1048576 l) : Ev (fun k => laws_toMatrix.f k l) l := by
  unfold laws_toMatrix.f
  exact ev_bind (laws_toByteSS.ev l hl) (ev_now rfl)

theorem impl_within.ev (a b c : Int) : impl_within.f a b c = some (decide (b ≤ a ∧ a ≤ c)) := by
  unfold impl_within.f
  by_cases h : a ≥ b
  · rw [if_pos h]; simp [h]
  · rw [if_neg h]; simp; omega

theorem impl_GoodMatrix.ev (l : List (List Int)) : impl_GoodMatrix.f l = some (goodM l) := rfl

theorem impl_column.ev_l0 (l : List (List Int)) (c j : Nat) (hl : l.length ≤ 1048576) (hj : j < c) (hc : ∀ i, i < l.length → (l.getD i []).length = c) : ∀ (d i : Nat) (o : List Int), i + d = l.length → o = (List.range i).map (fun b => (l.getD b []).getD j 0) →
    Ev (fun k => impl_column.l0 k (j : Int) o l (l.length : Int) (i : Int)) ((List.range l.length).map fun b => (l.getD b []).getD j 0)
  | 0, i, o, hi, ho => by
    refine Ev.step (fun k => impl_column.l0.eq_2 _ _ _ _ _ k) ?_
    refine ev_neg (by omega) (ev_now ?_)
    rw [ho, show i = l.length by omega]
  | d + 1, i, o, hi, ho => by
    have e := hc i (by omega)
    have hol : o.length = i := by rw [ho]; simp
    refine Ev.step (fun k => impl_column.l0.eq_2 _ _ _ _ _ k) ?_
    simp only [rdSS0, Int.toNat_natCast]
    refine ev_pos (by omega) (ev_pos (by omega) (ev_pos (by omega) (ev_pos (by omega) (ev_pos (by omega) (ev_pos (by omega) ?_)))))
    rw [inc (by omega)]
    refine impl_column.ev_l0 l c j hl hj hc d (i + 1) _ (by omega) ?_
    rw [ho, List.range_succ, List.map_append, rd_nat]
    rfl
theorem impl_column.ev (l : List (List Int)) (c j : Nat) (hl : l.length ≤ 1048576) (hj : j < c) (hc : ∀ i, i < l.length → (l.getD i []).length = c) : Ev (fun k => impl_column.f k l (j : Int)) ((List.range l.length).map fun b => (l.getD b []).getD j 0) := by
  unfold impl_column.f
  exact impl_column.ev_l0 l c j hl hj hc l.length 0 [] (by omega) rfl

theorem impl_transposed.ev_l0 (l : List (List Int)) (hg : goodM l = true) : ∀ (d j : Nat) (o : List (List Int)), j + d = (l.getD 0 []).length → o = tab j l.length (fun j i => (l.getD i []).getD j 0) →
    Ev (fun k => impl_transposed.l0 k l o ((l.getD 0 []).length : Int) (j : Int)) (trM l)
  | 0, j, o, hj, ho => by
    refine Ev.step (fun k => impl_transposed.l0.eq_2 _ _ _ _ k) ?_
    refine ev_neg (by omega) (ev_now ?_)
    rw [ho, show j = (l.getD 0 []).length by omega]
    rfl
  | d + 1, j, o, hj, ho => by
    have hf := goodM_iff hg
    have hol : o.length = j := by rw [ho, tab_length]
    refine Ev.step (fun k => impl_transposed.l0.eq_2 _ _ _ _ k) ?_
    refine ev_pos (by omega) (ev_bind (impl_column.ev l _ j (by omega) (by omega) hf.2.2) (ev_pos (by omega) ?_))
    rw [inc (by omega)]
    refine impl_transposed.ev_l0 l hg d (j + 1) _ (by omega) ?_
    rw [ho]
    unfold tab
    rw [List.range_succ, List.map_append]
    rfl
theorem impl_transposed.ev (l : List (List Int)) (hg : goodM l = true) : Ev (fun k => impl_transposed.f k l) (trM l) := by
  have hf := goodM_iff hg
  unfold impl_transposed.f
  refine ev_pos (by omega) ?_
  simp only [rdSS0, Int.toNat_zero]
  exact impl_transposed.ev_l0 l hg (l.getD 0 []).length 0 [] (by omega) rfl

theorem impl_Transposed.ev (l : List (List Int)) : Ev (fun k => impl_Transposed.f k l) (transVal l) := by
  unfold impl_Transposed.f transVal
  simp only [impl_GoodMatrix.ev, Option.bind_some]
  by_cases h : goodM l = true
  · rw [if_pos h]
    exact ev_pos h (ev_bind (impl_transposed.ev l h) (ev_now rfl))
  · rw [if_neg h]
    exact ev_neg h (ev_now rfl)

theorem goodM_rows {l : List (List Int)} (h : goodM l = true) : l.length ≤ 16 ∧ (l.getD 0 []).length ≤ 16 := by
  have := goodM_iff h
  omega
theorem transVal_rows (l : List (List Int)) : rowsLe 16 (transVal l).1 := by
  unfold transVal
  split
  · rename_i h
    have := goodM_rows h
    exact tab_rows _ this.2 this.1
  · exact nil_rows 16
theorem FnExactTransposed : ∀ (l : List (List Int)), (l.length ≤ maxLen ∧ ∀ r ∈ l, (r.length ≤ maxLen ∧ ∀ x ∈ r, (Lit.int .u8 x).wf = true)) → laws_FnExactTransposed.Facts l := by
  intro l hl
  have hsz := laws_szMatrix.ev l hl.1 (fun r hr => (hl.2 r hr).1) 1048576 (by decide) (by decide)
  by_cases h : (l.length : Int) + (totSS l : Int) ≤ 1048576
  · rw [if_pos h] at hsz
    have hr := rowsLe_of h
    have hz := transVal_rows l
    refine .inr ⟨_, l, (transVal l).1, (transVal l).2, Ev.rounds hsz, by omega, Ev.rounds (laws_toMatrix.ev l hr), ?_⟩
    have hR : rowsLe 1048576 (transVal l).1 := ⟨by have := hz.1; omega, fun r hr => by have := hz.2 r hr; omega⟩
    have ht := totSS_small (by decide) hz
    have ht2 := totSS_small (by decide) hr
    have hs := spec_Transposed.ev l
    have hi := impl_Transposed.ev l
    generalize transVal l = v at *
    obtain ⟨R, b⟩ := v
    dsimp only at *
    exact ⟨Ev.rounds hs, Ev.rounds hi, Ev.rounds (laws_eqMatrix.ev R hR), Ev.rounds (laws_eqMatrix.ev l hr), Ev.rounds (laws_heldMatrix.ev R 1 (by decide) (by omega) (by omega)),
      fun l a h1 h2 => Ev.rounds (laws_markByteS.ev l a h1 h2), ht2, ht⟩
  · rw [if_neg h] at hsz
    exact .inl ⟨_, Ev.rounds hsz, by decide⟩

end Go.Proofs.Ytggiajjnfldkgaa.Pure
