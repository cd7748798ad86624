/- The given program's PartOf returns what the reference's PartOf returns, for all matrices and lists of rows and columns, leaves them as they were, and what it returns is its own; there is no condition. -/
import Derived.Test.YtggiajjnfldkgaaPFnExactPartOfx
import Derived.Test.YtggiajjnfldkgaaWalkFnExactPartOf
import Derived.Test.YtggiajjnfldkgaaKit
import Derived.Test.YtggiajjnfldkgaaKit2
namespace Go.Proofs.Ytggiajjnfldkgaa.Pure
open Go.RowKit Go.Proofs.Ytggiajjnfldkgaa.PFnExactPartOf Go.Proofs.YtggiajjnfldkgaaW.PrintWords Go.Proofs.YtggiajjnfldkgaaW.PrintLast Go.Proofs.Ytggiajjnfldkgaa.Gf Go.Proofs.Ytggiajjnfldkgaa.Kit
set_option linter.unusedVariables false
set_option linter.unusedSimpArgs false

theorem rdSS (l : List (List Int)) (i : Nat) (h : i < l.length) : rd_L1 l (i : Int) = l[i] := by unfold rd_L1; simp [List.getD, h]
theorem rdSS0 (l : List (List Int)) (i : Int) : rd_L1 l i = l.getD i.toNat [] := rfl
theorem laws_eqByteS.ev_l0 (l : List Int) (hl : l.length < 4611686018427387904) : ∀ (n i : Nat), i + n = l.length → Ev (fun k => laws_eqByteS.l0 k l l (i : Int)) true
  | 0, i, hi => by
    refine Ev.step (fun k => laws_eqByteS.l0.eq_2 _ _ _ k) ?_
    exact ev_neg (by omega) (ev_now rfl)
  | n + 1, i, hi => by
    refine Ev.step (fun k => laws_eqByteS.l0.eq_2 _ _ _ k) ?_
    refine ev_pos (by omega) (ev_pos (by omega) (ev_pos (by omega) (ev_pos rfl ?_)))
    rw [inc (by omega)]
    exact laws_eqByteS.ev_l0 l hl n (i + 1) (by omega)
theorem laws_eqByteS.ev (l : List Int) (hl : l.length ≤ 281474976710656) : Ev (fun k => laws_eqByteS.f k l l) true := by
  unfold laws_eqByteS.f
  exact ev_pos rfl (laws_eqByteS.ev_l0 l (by omega) l.length 0 (by omega))

theorem laws_eqByteSS.ev_l0 (l : List (List Int)) (hl : rowsLe 1048576 l) : ∀ (n i : Nat), i + n = l.length → Ev (fun k => laws_eqByteSS.l0 k l l (i : Int)) true
  | 0, i, hi => by
    refine Ev.step (fun k => laws_eqByteSS.l0.eq_2 _ _ _ k) ?_
    exact ev_neg (by omega) (ev_now rfl)
  | n + 1, i, hi => by
    have h1 := hl.1
    have h2 := hl.2 _ (List.getElem_mem (show i < l.length by omega))
    refine Ev.step (fun k => laws_eqByteSS.l0.eq_2 _ _ _ k) ?_
    refine ev_pos (by omega) (ev_pos (by omega) (ev_pos (by omega) ?_))
    rw [rdSS l i (by omega), inc (by omega)]
    exact ev_bind (laws_eqByteS.ev _ (by omega)) (ev_pos rfl (laws_eqByteSS.ev_l0 l hl n (i + 1) (by omega)))
theorem laws_eqByteSS.ev (l : List (List Int)) (hl : rowsLe 1048576 l) : Ev (fun k => laws_eqByteSS.f k l l) true := by
  unfold laws_eqByteSS.f
  exact ev_pos rfl (laws_eqByteSS.ev_l0 l hl l.length 0 (by omega))

theorem laws_eqMatrix.ev (l : List (List Int)) (hl : rowsLe 1048576 l) : Ev (fun k => laws_eqMatrix.f k l l) true := by
  unfold laws_eqMatrix.f
  exact ev_bind (laws_eqByteSS.ev l hl) (ev_pos rfl (ev_now rfl))

theorem laws_markByteS.ev_l0 (a : Int) (m : Nat) (ha : 0 ≤ a) (hm : a + m < 4611686018427387904) : ∀ (n i : Nat) (o : List Int), i + n = m → o.length = m → o.take i = (markB a m).take i →
    Ev (fun k => laws_markByteS.l0 k o (a + (i : Nat)) (i : Int)) (a + (m : Nat), markB a m)
  | 0, i, o, hi, ho, ht => by
    refine Ev.step (fun k => laws_markByteS.l0.eq_2 _ _ _ k) ?_
    refine ev_neg (by omega) (ev_now ?_)
    have hb := markB_length a m
    rw [List.take_of_length_le (by omega), List.take_of_length_le (by omega)] at ht
    subst ht
    have : i = m := by omega
    rw [this]
  | n + 1, i, o, hi, ho, ht => by
    refine Ev.step (fun k => laws_markByteS.l0.eq_2 _ _ _ k) ?_
    refine ev_pos (by omega) (ev_pos (by omega) ?_)
    have e : wrap64 (a + (i : Nat) + 1) = a + ((i + 1 : Nat) : Int) := by unfold wrap64; omega
    rw [inc (by omega), e, Int.toNat_natCast]
    refine laws_markByteS.ev_l0 a m ha hm n (i + 1) _ (by omega) (by simpa using ho) ?_
    have hb := markB_length a m
    rw [take_set_succ _ _ _ (by omega), ht, List.take_succ_eq_append_getElem (by omega), markB_get]
theorem laws_markByteS.ev (l : List Int) (a : Int) (ha : 0 ≤ a) (hm : a + l.length < 4611686018427387904) : Ev (fun k => laws_markByteS.f k l a) (a + (l.length : Nat), markB a l.length) := by
  unfold laws_markByteS.f
  have := laws_markByteS.ev_l0 a l.length ha hm l.length 0 l (by omega) rfl rfl
  simpa using this

theorem laws_heldByteS.ev_l0 (a : Int) (m : Nat) (ha : 0 ≤ a) (hm : a + m < 4611686018427387904) : ∀ (n i : Nat), i + n = m →
    Ev (fun k => laws_heldByteS.l0 k (markB a m) (a + (i : Nat)) (i : Int)) (a + (m : Nat))
  | 0, i, hi => by
    have hb := markB_length a m
    refine Ev.step (fun k => laws_heldByteS.l0.eq_2 _ _ _ k) ?_
    refine ev_neg (by omega) (ev_now ?_)
    have : i = m := by omega
    rw [this]
  | n + 1, i, hi => by
    have hb := markB_length a m
    refine Ev.step (fun k => laws_heldByteS.l0.eq_2 _ _ _ k) ?_
    refine ev_pos (by omega) (ev_pos (by omega) (ev_pos (by rw [rd_get (by omega), markB_get]) ?_))
    have e : wrap64 (a + (i : Nat) + 1) = a + ((i + 1 : Nat) : Int) := by unfold wrap64; omega
    rw [inc (by omega), e]
    exact laws_heldByteS.ev_l0 a m ha hm n (i + 1) (by omega)
theorem laws_heldByteS.ev (a : Int) (m : Nat) (ha : 0 ≤ a) (hm : a + m < 4611686018427387904) : Ev (fun k => laws_heldByteS.f k (markB a m) a) (a + (m : Nat)) := by
  unfold laws_heldByteS.f
  have := laws_heldByteS.ev_l0 a m ha hm m 0 (by omega)
  simpa using this

theorem markSS_get (R : List (List Int)) : ∀ (a : Int) (i : Nat) (h : i < R.length), (markSS a R)[i]'(by rw [markSS_length]; exact h) = markB (a + (totSS (R.take i) : Nat)) (R[i]).length := by
  induction R with
  | nil => intro a i h; simp at h
  | cons r R ih =>
    intro a i h
    cases i with
    | zero => simp [markSS, totSS]
    | succ i =>
      have := ih (a + (r.length : Nat)) i (by simpa using h)
      simp only [markSS, List.getElem_cons_succ, List.take_succ_cons, totSS] at this ⊢
      rw [this]
      congr 1
      omega
theorem laws_heldByteSS.ev_l0 (R : List (List Int)) (a : Int) (ha : 0 ≤ a) (hm : a + (totSS R : Nat) < 4611686018427387904) (hl : R.length < 4611686018427387904) : ∀ (n i : Nat), i + n = R.length →
    Ev (fun k => laws_heldByteSS.l0 k (markSS a R) (a + (totSS (R.take i) : Nat)) (i : Int)) (a + (totSS R : Nat))
  | 0, i, hi => by
    have hb := markSS_length a R
    refine Ev.step (fun k => laws_heldByteSS.l0.eq_2 _ _ _ k) ?_
    refine ev_neg (by omega) (ev_now ?_)
    rw [List.take_of_length_le (by omega)]
  | n + 1, i, hi => by
    have hb := markSS_length a R
    have hlt : i < R.length := by omega
    have htake : totSS (R.take (i + 1)) = totSS (R.take i) + R[i].length := by
      rw [List.take_succ_eq_append_getElem hlt, totSS_append]; simp [totSS]
    have hle : totSS (R.take (i + 1)) ≤ totSS R := by
      have e := congrArg totSS (List.take_append_drop (i + 1) R)
      rw [totSS_append] at e
      omega
    have ih := laws_heldByteSS.ev_l0 R a ha hm hl n (i + 1) (by omega)
    rw [htake] at ih
    refine Ev.step (fun k => laws_heldByteSS.l0.eq_2 _ _ _ k) ?_
    refine ev_pos (by omega) (ev_pos (by omega) ?_)
    rw [rdSS _ i (by omega), markSS_get R a i hlt, inc (by omega)]
    refine ev_bind (laws_heldByteS.ev _ _ (by omega) (by omega)) (ev_neg (by omega) (ev_eq ?_ rfl))
    have e : a + ((totSS (R.take i) + R[i].length : Nat) : Int) = a + (totSS (R.take i) : Nat) + (R[i].length : Nat) := by omega
    rw [e] at ih
    exact ih
theorem laws_heldByteSS.ev (R : List (List Int)) (a : Int) (ha : 0 ≤ a) (hm : a + (totSS R : Nat) < 4611686018427387904) (hl : R.length < 4611686018427387904) : Ev (fun k => laws_heldByteSS.f k (markSS a R) a) (a + (totSS R : Nat)) := by
  unfold laws_heldByteSS.f
  have := laws_heldByteSS.ev_l0 R a ha hm hl R.length 0 (by omega)
  simpa [totSS] using this

theorem laws_heldMatrix.ev (R : List (List Int)) (a : Int) (ha : 0 ≤ a) (hm : a + (totSS R : Nat) < 4611686018427387904) (hl : R.length < 4611686018427387904) : Ev (fun k => laws_heldMatrix.f k (markSS a R) a) (a + (totSS R : Nat)) := by
  unfold laws_heldMatrix.f
  exact ev_bind (laws_heldByteSS.ev R a ha hm hl) (ev_neg (by omega) (ev_now rfl))

theorem laws_szByteS.ev (l : List Int) (a : Int) (hl : l.length ≤ maxLen) (h1 : 0 ≤ a) (h2 : a ≤ 1048576) : laws_szByteS.f l a = some (if (l.length : Int) ≤ a then a - (l.length : Int) else -1) := by
  unfold laws_szByteS.f
  unfold maxLen at hl
  have e : wrap64 (a - (l.length : Int)) = a - (l.length : Int) := by unfold wrap64; omega
  rw [e]
  by_cases h : (l.length : Int) ≤ a
  · rw [if_neg (by omega), if_pos h]
  · rw [if_pos (by omega), if_neg h]

theorem laws_szByteSS.ev_l0 (l : List (List Int)) (hl : l.length ≤ 1048576) (hr : ∀ r ∈ l, r.length ≤ maxLen) : ∀ (n i : Nat) (t : Int), i + n = l.length → 0 ≤ t → t ≤ 1048576 →
    Ev (fun k => laws_szByteSS.l0 k l t (i : Int)) (if (totSS (l.drop i) : Int) ≤ t then t - (totSS (l.drop i) : Int) else -1)
  | 0, i, t, hi, h0, h1 => by
    refine Ev.step (fun k => laws_szByteSS.l0.eq_2 _ _ _ k) ?_
    refine ev_neg (by omega) (ev_now ?_)
    rw [List.drop_of_length_le (by omega)]
    simp [totSS, h0]
  | n + 1, i, t, hi, h0, h1 => by
    have hlt : i < l.length := by omega
    have hm : i < 4611686018427387904 := by omega
    have he : totSS (l.drop i) = l[i].length + totSS (l.drop (i + 1)) := by rw [List.drop_eq_getElem_cons hlt]; rfl
    refine Ev.step (fun k => laws_szByteSS.l0.eq_2 _ _ _ k) ?_
    refine ev_pos (by omega) (ev_pos (by omega) ?_)
    rw [rdSS l i hlt, he]
    simp only [laws_szByteS.ev l[i] t (hr _ (List.getElem_mem hlt)) h0 h1, Option.bind_some]
    by_cases h : ((l[i]).length : Int) ≤ t
    · rw [if_pos h]
      refine ev_neg (by omega) ?_
      rw [inc hm]
      refine ev_eq (laws_szByteSS.ev_l0 l hl hr n (i + 1) (t - ((l[i]).length : Int)) (by omega) (by omega) (by omega)) ?_
      by_cases h2 : (totSS (l.drop (i + 1)) : Int) ≤ t - ((l[i]).length : Int)
      · rw [if_pos h2, if_pos (by omega)]; omega
      · rw [if_neg h2, if_neg (by omega)]
    · rw [if_neg h]
      refine ev_pos (by omega) (ev_now ?_)
      rw [if_neg (by omega)]
theorem laws_szByteSS.ev (l : List (List Int)) (hl : l.length ≤ maxLen) (hr : ∀ r ∈ l, r.length ≤ maxLen) (t : Int) (h0 : 0 ≤ t) (h1 : t ≤ 1048576) :
    Ev (fun k => laws_szByteSS.f k l t) (if (l.length : Int) + (totSS l : Int) ≤ t then t - (l.length : Int) - (totSS l : Int) else -1) := by
  unfold laws_szByteSS.f
  have e : wrap64 (t - (l.length : Int)) = t - (l.length : Int) := by unfold maxLen at hl; unfold wrap64; omega
  rw [e]
  by_cases h : (l.length : Int) ≤ t
  · refine ev_neg (by omega) (ev_eq (laws_szByteSS.ev_l0 l (by omega) hr l.length 0 _ (by omega) (by omega) (by omega)) ?_)
    rw [List.drop_zero]
    by_cases h2 : (totSS l : Int) ≤ t - (l.length : Int)
    · rw [if_pos h2, if_pos (by omega)]
    · rw [if_neg h2, if_neg (by omega)]
  · refine ev_pos (by omega) (ev_now ?_)
    rw [if_neg (by omega)]
theorem mem_totSS {l : List (List Int)} {r : List Int} (h : r ∈ l) : r.length ≤ totSS l := by
  induction l with
  | nil => simp at h
  | cons x l ih =>
    rcases List.mem_cons.1 h with rfl | h
    · simp [totSS]
    · have := ih h; simp only [totSS]; omega
theorem rowsLe_of {l : List (List Int)} (h : (l.length : Int) + (totSS l : Int) ≤ 1048576) : rowsLe 1048576 l := ⟨by omega, fun r hr => by have := mem_totSS hr; omega⟩

theorem laws_szMatrix.ev (l : List (List Int)) (hl : l.length ≤ maxLen) (hr : ∀ r ∈ l, r.length ≤ maxLen) (t : Int) (h0 : 0 ≤ t) (h1 : t ≤ 1048576) :
    Ev (fun k => laws_szMatrix.f k l t) (if (l.length : Int) + (totSS l : Int) ≤ t then t - (l.length : Int) - (totSS l : Int) else -1) := by
  unfold laws_szMatrix.f
  refine ev_bind (laws_szByteSS.ev l hl hr t h0 h1) ?_
  by_cases h : (l.length : Int) + (totSS l : Int) ≤ t
  · rw [if_pos h]; exact ev_neg (by omega) (ev_now rfl)
  · rw [if_neg h]; exact ev_pos (by omega) (ev_now rfl)

theorem laws_toByteS.ev_l0 (l : List Int) (hl : l.length < 4611686018427387904) : ∀ (n i : Nat) (o : List Int), i + n = l.length → o.length = l.length → o.take i = l.take i →
    Ev (fun k => laws_toByteS.l0 k l o (i : Int)) l
  | 0, i, o, hi, ho, ht => by
    refine Ev.step (fun k => laws_toByteS.l0.eq_2 _ _ _ k) ?_
    refine ev_neg (by omega) (ev_now ?_)
    rw [List.take_of_length_le (by omega), List.take_of_length_le (by omega)] at ht
    exact ht
  | n + 1, i, o, hi, ho, ht => by
    refine Ev.step (fun k => laws_toByteS.l0.eq_2 _ _ _ k) ?_
    refine ev_pos (by omega) (ev_pos (by omega) (ev_pos (by omega) ?_))
    rw [inc (by omega), Int.toNat_natCast]
    refine laws_toByteS.ev_l0 l hl n (i + 1) _ (by omega) (by simpa using ho) ?_
    rw [take_set_succ _ _ _ (by omega), ht, List.take_succ_eq_append_getElem (by omega), rd_get (by omega)]
theorem laws_toByteS.ev (l : List Int) (hl : l.length ≤ 281474976710656) : Ev (fun k => laws_toByteS.f k l) l := by
  unfold laws_toByteS.f
  refine ev_pos (by omega) (ev_pos (by omega) ?_)
  exact laws_toByteS.ev_l0 l (by omega) l.length 0 _ (by omega) (by simp) rfl

theorem laws_toByteSS.ev_l0 (l : List (List Int)) (hl : rowsLe 1048576 l) : ∀ (n i : Nat) (o : List (List Int)), i + n = l.length → o.length = l.length → o.take i = l.take i →
    Ev (fun k => laws_toByteSS.l0 k l o (i : Int)) l
  | 0, i, o, hi, ho, ht => by
    refine Ev.step (fun k => laws_toByteSS.l0.eq_2 _ _ _ k) ?_
    refine ev_neg (by omega) (ev_now ?_)
    rw [List.take_of_length_le (by omega), List.take_of_length_le (by omega)] at ht
    exact ht
  | n + 1, i, o, hi, ho, ht => by
    have h1 := hl.1
    have h2 := hl.2 _ (List.getElem_mem (show i < l.length by omega))
    refine Ev.step (fun k => laws_toByteSS.l0.eq_2 _ _ _ k) ?_
    refine ev_pos (by omega) (ev_pos (by omega) ?_)
    rw [rdSS l i (by omega)]
    refine ev_bind (laws_toByteS.ev _ (by omega)) (ev_pos (by omega) ?_)
    rw [inc (by omega), Int.toNat_natCast]
    refine laws_toByteSS.ev_l0 l hl n (i + 1) _ (by omega) (by simpa using ho) ?_
    have hs : (o.set i l[i]).take (i + 1) = o.take i ++ [l[i]] := by
      rw [List.take_succ_eq_append_getElem (by simp; omega)]
      simp [List.take_set_of_le]
    rw [hs, ht, List.take_succ_eq_append_getElem (by omega)]
theorem laws_toByteSS.ev (l : List (List Int)) (hl : rowsLe 1048576 l) : Ev (fun k => laws_toByteSS.f k l) l := by
  unfold laws_toByteSS.f
  have h1 := hl.1
  refine ev_pos (by omega) (ev_pos (by omega) ?_)
  exact laws_toByteSS.ev_l0 l hl l.length 0 _ (by omega) (by simp) rfl

theorem laws_toMatrix.ev (l : List (List Int)) (hl : rowsLe 1048576 l) : Ev (fun k => laws_toMatrix.f k l) l := by
  unfold laws_toMatrix.f
  exact ev_bind (laws_toByteSS.ev l hl) (ev_now rfl)

theorem spec_l1In.ev (a b c : Int) : spec_l1In.f a b c = some (decide (b ≤ a ∧ a ≤ c)) := by
  unfold spec_l1In.f
  by_cases h : a ≥ b
  · rw [if_pos h]; simp [h]
  · rw [if_neg h]; simp; omega

theorem goodM_first {l : List (List Int)} (h1 : 1 ≤ l.length ∧ l.length ≤ 16) (h2 : 1 ≤ (l.getD 0 []).length ∧ (l.getD 0 []).length ≤ 16) : goodM l = !((List.range l.length).any fun i => (l.getD i []).length != (l.getD 0 []).length) := by
  unfold goodM
  rw [decide_eq_true (show 1 ≤ l.length ∧ l.length ≤ 16 ∧ 1 ≤ (l.getD 0 []).length ∧ (l.getD 0 []).length ≤ 16 from ⟨h1.1, h1.2, h2⟩), Bool.true_and]
theorem goodM_no {l : List (List Int)} (h : ¬ (1 ≤ l.length ∧ l.length ≤ 16 ∧ 1 ≤ (l.getD 0 []).length ∧ (l.getD 0 []).length ≤ 16)) : goodM l = false := by
  unfold goodM
  rw [decide_eq_false h, Bool.false_and]
theorem spec_GoodMatrix.ev_l0 (l : List (List Int)) (h1 : 1 ≤ l.length ∧ l.length ≤ 16) (h2 : 1 ≤ (l.getD 0 []).length ∧ (l.getD 0 []).length ≤ 16) : ∀ (n i : Nat), i + n = l.length → (∀ j, j < i → (l.getD j []).length = (l.getD 0 []).length) →
    Ev (fun k => spec_GoodMatrix.l0 k l (l.length : Int) (i : Int) l) (goodM l)
  | 0, i, hi, ha => by
    refine Ev.step (fun k => spec_GoodMatrix.l0.eq_2 _ _ _ _ k) ?_
    refine ev_neg (by omega) (ev_now ?_)
    rw [goodM_first h1 h2]
    have : ((List.range l.length).any fun i => (l.getD i []).length != (l.getD 0 []).length) = false := by
      rw [List.any_eq_false]
      intro x hx
      have hx' : x < l.length := by simpa using hx
      simp only [ha x (by omega), bne_self_eq_false]
      simp
    rw [this]; rfl
  | n + 1, i, hi, ha => by
    refine Ev.step (fun k => spec_GoodMatrix.l0.eq_2 _ _ _ _ k) ?_
    refine ev_pos (by omega) (ev_pos (by omega) (ev_pos (by omega) (ev_pos (by omega) ?_)))
    simp only [rdSS0, Int.toNat_natCast, Int.toNat_zero]
    by_cases h : (l.getD i []).length = (l.getD 0 []).length
    · refine ev_pos (by omega) ?_
      rw [inc (by omega)]
      exact spec_GoodMatrix.ev_l0 l h1 h2 n (i + 1) (by omega) (fun j hj => by by_cases e : j = i; exact e ▸ h; exact ha j (by omega))
    · refine ev_neg (by omega) (ev_now ?_)
      rw [goodM_first h1 h2]
      have : ((List.range l.length).any fun i => (l.getD i []).length != (l.getD 0 []).length) = true := List.any_eq_true.2 ⟨i, by simp; omega, by simpa using h⟩
      rw [this]; rfl
theorem spec_GoodMatrix.ev (l : List (List Int)) : Ev (fun k => spec_GoodMatrix.f k l) (goodM l) := by
  unfold spec_GoodMatrix.f
  simp only [spec_l1In.ev, Option.bind_some, decide_eq_true_eq, rdSS0, Int.toNat_zero]
  by_cases h1 : 1 ≤ (l.length : Int) ∧ (l.length : Int) ≤ 16
  · refine ev_pos h1 (ev_pos (by omega) ?_)
    by_cases h2 : 1 ≤ ((l.getD 0 []).length : Int) ∧ ((l.getD 0 []).length : Int) ≤ 16
    · rw [decide_eq_true h2]
      refine Ev.step (fun k => spec_GoodMatrix.j0.eq_2 _ _ k) (ev_neg (by simp) ?_)
      exact spec_GoodMatrix.ev_l0 l (by omega) (by omega) l.length 0 (by omega) (fun j hj => absurd hj (by omega))
    · rw [decide_eq_false h2]
      refine Ev.step (fun k => spec_GoodMatrix.j0.eq_2 _ _ k) (ev_pos rfl (ev_now ?_))
      exact (goodM_no (by omega)).symm
  · refine ev_neg h1 ?_
    refine Ev.step (fun k => spec_GoodMatrix.j0.eq_2 _ _ k) (ev_pos rfl (ev_now ?_))
    exact (goodM_no (by omega)).symm

theorem spec_l1Some.ev_l0 (l : List Int) (n : Nat) (hn : n ≤ 16) (hl : l.length ≤ 1048576) (hw : ∀ x ∈ l, (Lit.int .i64 x).wf = true) : ∀ (d i : Nat), i + d = l.length → (∀ j, j < i → riseAt l n j = true) → Ev (fun k => spec_l1Some.l0 k l (n : Int) l (l.length : Int) (i : Int)) (rising l n)
  | 0, i, hi, ha => by
    refine Ev.step (fun k => spec_l1Some.l0.eq_2 _ _ _ _ _ k) ?_
    exact ev_neg (by omega) (ev_now (rising_yes (fun j hj => ha j (by omega))).symm)
  | d + 1, i, hi, ha => by
    have e : wrap64 ((n : Int) - 1) = (n : Int) - 1 := by unfold wrap64; omega
    refine Ev.step (fun k => spec_l1Some.l0.eq_2 _ _ _ _ _ k) ?_
    refine ev_pos (by omega) (ev_pos (by omega) (ev_pos (by omega) ?_))
    simp only [spec_l1In.ev, Option.bind_some, decide_eq_true_eq, e]
    by_cases h : 0 ≤ rd l (i : Int) ∧ rd l (i : Int) ≤ (n : Int) - 1
    · refine ev_pos h ?_
      by_cases h0 : i = 0
      · subst h0
        refine ev_neg (by omega) ?_
        rw [inc (by omega)]
        refine spec_l1Some.ev_l0 l n hn hl hw d 1 (by omega) (fun j hj => ?_)
        have : j = 0 := by omega
        subst this
        exact riseAt_yes h (.inl rfl)
      · have e2 : wrap64 ((i : Int) - 1) = ((i - 1 : Nat) : Int) := by unfold wrap64; omega
        refine ev_pos (by omega) ?_
        rw [e2]
        refine ev_pos (by omega) (ev_pos (by omega) ?_)
        by_cases h2 : rd l ((i - 1 : Nat) : Int) ≥ rd l (i : Int)
        · exact ev_pos h2 (ev_now (rising_no (i := i) (by omega) (riseAt_no (fun z => by rcases z.2 with z | z <;> omega))).symm)
        · refine ev_neg h2 ?_
          rw [inc (by omega)]
          refine spec_l1Some.ev_l0 l n hn hl hw d (i + 1) (by omega) (fun j hj => ?_)
          by_cases ej : j = i
          · subst ej; exact riseAt_yes h (.inr (by omega))
          · exact ha j (by omega)
    · exact ev_neg h (ev_now (rising_no (i := i) (by omega) (riseAt_no (fun z => h z.1))).symm)
theorem spec_l1Some.ev (l : List Int) (n : Nat) (hn : n ≤ 16) (hl : l.length ≤ 1048576) (hw : ∀ x ∈ l, (Lit.int .i64 x).wf = true) : Ev (fun k => spec_l1Some.f k l (n : Int)) (rising l n) := by
  unfold spec_l1Some.f
  exact spec_l1Some.ev_l0 l n hn hl hw l.length 0 (by omega) (fun j hj => absurd hj (by omega))

theorem spec_l2Part.ev_l1 (m : List (List Int)) (c : List Int) (hg : goodM m = true) (hc : c.length ≤ 1048576) (hcn : ∀ j, j < c.length → 0 ≤ rd c (j : Int) ∧ rd c (j : Int) < ((m.getD 0 []).length : Int)) (r : List Int) (i a : Nat) (ha : a < m.length) (out : List (List Int)) (ho : out.length < 5864062014805) {R : List (List Int)}
    (K : Ev (fun k => spec_l2Part.l0 k c r (r.length : Int) (wrap64 ((i : Int) + 1)) m (out ++ [partRow m c a])) R) : ∀ (d j : Nat) (o : List Int), j + d = c.length → o = (partRow m c a).take j →
    Ev (fun k => spec_l2Part.l1 k c (a : Int) o r (r.length : Int) (i : Int) c (c.length : Int) (j : Int) m out) R
  | 0, j, o, hj, hoj => by
    refine Ev.step (fun k => spec_l2Part.l1.eq_2 _ _ _ _ _ _ _ _ _ _ _ k) ?_
    refine ev_neg (by omega) (ev_pos ho ?_)
    rw [hoj, List.take_of_length_le (by rw [partRow_length]; omega)]
    exact K
  | d + 1, j, o, hj, hoj => by
    have hf := goodM_iff hg
    have e := hf.2.2 a ha
    have h2 := hcn j (by omega)
    have hol : o.length = j := by rw [hoj, List.length_take, partRow_length]; omega
    refine Ev.step (fun k => spec_l2Part.l1.eq_2 _ _ _ _ _ _ _ _ _ _ _ k) ?_
    simp only [rdSS0, Int.toNat_natCast]
    refine ev_pos (by omega) (ev_pos (by omega) (ev_pos (by omega) (ev_pos (by omega) (ev_pos (by omega) (ev_pos h2.1 (ev_pos (by omega) (ev_pos (by omega) ?_)))))))
    rw [inc (by omega)]
    exact spec_l2Part.ev_l1 m c hg hc hcn r i a ha out ho K d (j + 1) _ (by omega) (by rw [partRow_succ m c a j (by omega), ← hoj])
theorem spec_l2Part.ev_l0 (m : List (List Int)) (c r : List Int) (hg : goodM m = true) (hc : c.length ≤ 1048576) (hr : r.length ≤ 1048576) (hcn : ∀ j, j < c.length → 0 ≤ rd c (j : Int) ∧ rd c (j : Int) < ((m.getD 0 []).length : Int)) (hrn : ∀ j, j < r.length → 0 ≤ rd r (j : Int) ∧ rd r (j : Int) < (m.length : Int)) : ∀ (d i : Nat) (out : List (List Int)), i + d = r.length → out = (partM m r c).take i →
    Ev (fun k => spec_l2Part.l0 k c r (r.length : Int) (i : Int) m out) (partM m r c)
  | 0, i, out, hi, ho => by
    refine Ev.step (fun k => spec_l2Part.l0.eq_2 _ _ _ _ _ _ k) ?_
    refine ev_neg (by omega) (ev_now ?_)
    rw [ho, List.take_of_length_le (by rw [partM_length]; omega)]
  | d + 1, i, out, hi, ho => by
    have h2 := hrn i (by omega)
    have hol : out.length = i := by rw [ho, List.length_take, partM_length]; omega
    obtain ⟨a, ha⟩ := Int.eq_ofNat_of_zero_le h2.1
    refine Ev.step (fun k => spec_l2Part.l0.eq_2 _ _ _ _ _ _ k) ?_
    refine ev_pos (by omega) (ev_pos (by omega) (ev_pos (by omega) ?_))
    have ih := spec_l2Part.ev_l0 m c r hg hc hr hcn hrn d (i + 1) (out ++ [partRow m c a]) (by omega) (by rw [partM_succ m r c i (by omega), ← ho, ha, Int.toNat_natCast])
    rw [ha]
    exact spec_l2Part.ev_l1 m c hg hc hcn r i a (by omega) out (by omega) (by rw [inc (by omega)]; exact ih) c.length 0 [] (by omega) rfl
theorem spec_l2Part.ev (m : List (List Int)) (r c : List Int) (hg : goodM m = true) (hc : c.length ≤ 1048576) (hr : r.length ≤ 1048576) (hcn : ∀ j, j < c.length → 0 ≤ rd c (j : Int) ∧ rd c (j : Int) < ((m.getD 0 []).length : Int)) (hrn : ∀ j, j < r.length → 0 ≤ rd r (j : Int) ∧ rd r (j : Int) < (m.length : Int)) : Ev (fun k => spec_l2Part.f k m r c) (partM m r c) := by
  unfold spec_l2Part.f
  exact spec_l2Part.ev_l0 m c r hg hc hr hcn hrn r.length 0 [] (by omega) rfl

def partVal (m : List (List Int)) (r c : List Int) : List (List Int) × Bool := if goodM m = true ∧ rising r m.length = true ∧ rising c (m.getD 0 []).length = true ∧ r.length ≠ 0 ∧ c.length ≠ 0 then (partM m r c, true) else ([], false)
theorem partVal_no {m : List (List Int)} {r c : List Int} (h : ¬ (goodM m = true ∧ rising r m.length = true ∧ rising c (m.getD 0 []).length = true ∧ r.length ≠ 0 ∧ c.length ≠ 0)) : partVal m r c = ([], false) := if_neg h
theorem spec_PartOf.ev (m : List (List Int)) (r c : List Int) (hr : r.length ≤ 1048576) (hc : c.length ≤ 1048576) (wr : ∀ x ∈ r, (Lit.int .i64 x).wf = true) (wc : ∀ x ∈ c, (Lit.int .i64 x).wf = true) : Ev (fun k => spec_PartOf.f k m r c) (partVal m r c) := by
  unfold spec_PartOf.f
  refine ev_bind (spec_GoodMatrix.ev m) ?_
  by_cases h : goodM m = true
  · have hf := goodM_iff h
    refine ev_pos h (ev_bind (spec_l1Some.ev r m.length (by omega) hr wr) ?_)
    by_cases h1 : rising r m.length = true
    · refine ev_pos h1 (ev_pos (by omega) ?_)
      simp only [rdSS0, Int.toNat_zero]
      refine ev_bind (spec_l1Some.ev c _ (by omega) hc wc) ?_
      by_cases h2 : rising c (m.getD 0 []).length = true
      · refine ev_pos h2 ?_
        by_cases h3 : r.length = 0
        · exact ev_pos (by omega) (ev_now (partVal_no (fun z => z.2.2.2.1 h3)).symm)
        · refine ev_neg (by omega) ?_
          by_cases h4 : c.length = 0
          · exact ev_pos (by omega) (ev_now (partVal_no (fun z => z.2.2.2.2 h4)).symm)
          · refine ev_neg (by omega) (ev_bind (spec_l2Part.ev m r c h hc hr (rising_in h2) (rising_in h1)) (ev_now ?_))
            exact (if_pos ⟨h, h1, h2, h3, h4⟩).symm
      · exact ev_neg h2 (ev_now (partVal_no (fun z => h2 z.2.2.1)).symm)
    · exact ev_neg h1 (ev_now (partVal_no (fun z => h1 z.2.1)).symm)
  · exact ev_neg h (ev_now (partVal_no (fun z => h z.1)).symm)

theorem laws_toIntS.ev_l0 (l : List Int) (hl : l.length < 4611686018427387904) : ∀ (n i : Nat) (o : List Int), i + n = l.length → o.length = l.length → o.take i = l.take i →
    Ev (fun k => laws_toIntS.l0 k l o (i : Int)) l
  | 0, i, o, hi, ho, ht => by
    refine Ev.step (fun k => laws_toIntS.l0.eq_2 _ _ _ k) ?_
    refine ev_neg (by omega) (ev_now ?_)
    rw [List.take_of_length_le (by omega), List.take_of_length_le (by omega)] at ht
    exact ht
  | n + 1, i, o, hi, ho, ht => by
    refine Ev.step (fun k => laws_toIntS.l0.eq_2 _ _ _ k) ?_
    refine ev_pos (by omega) (ev_pos (by omega) (ev_pos (by omega) ?_))
    rw [inc (by omega), Int.toNat_natCast]
    refine laws_toIntS.ev_l0 l hl n (i + 1) _ (by omega) (by simpa using ho) ?_
    rw [take_set_succ _ _ _ (by omega), ht, List.take_succ_eq_append_getElem (by omega), rd_get (by omega)]
theorem laws_toIntS.ev (l : List Int) (hl : l.length ≤ 35184372088832) : Ev (fun k => laws_toIntS.f k l) l := by
  unfold laws_toIntS.f
  refine ev_pos (by omega) (ev_pos (by omega) ?_)
  exact laws_toIntS.ev_l0 l (by omega) l.length 0 _ (by omega) (by simp) rfl

theorem impl_within.ev (a b c : Int) : impl_within.f a b c = some (decide (b ≤ a ∧ a ≤ c)) := by
  unfold impl_within.f
  by_cases h : a ≥ b
  · rw [if_pos h]; simp [h]
  · rw [if_neg h]; simp; omega

theorem impl_GoodMatrix.ev (l : List (List Int)) : impl_GoodMatrix.f l = some (goodM l) := rfl

theorem impl_isIncreasing.ev_l0 (l : List Int) (n : Nat) (hn : n ≤ 16) (hl : l.length ≤ 1048576) (hw : ∀ x ∈ l, (Lit.int .i64 x).wf = true) : ∀ (d i : Nat), i + d = l.length → (∀ j, j < i → riseAt l n j = true) → Ev (fun k => impl_isIncreasing.l0 k l (n : Int) l (l.length : Int) (i : Int)) (rising l n)
  | 0, i, hi, ha => by
    refine Ev.step (fun k => impl_isIncreasing.l0.eq_2 _ _ _ _ _ k) ?_
    exact ev_neg (by omega) (ev_now (rising_yes (fun j hj => ha j (by omega))).symm)
  | d + 1, i, hi, ha => by
    have e : wrap64 ((n : Int) - 1) = (n : Int) - 1 := by unfold wrap64; omega
    refine Ev.step (fun k => impl_isIncreasing.l0.eq_2 _ _ _ _ _ k) ?_
    refine ev_pos (by omega) (ev_pos (by omega) (ev_pos (by omega) ?_))
    simp only [impl_within.ev, Option.bind_some, decide_eq_true_eq, e]
    by_cases h : 0 ≤ rd l (i : Int) ∧ rd l (i : Int) ≤ (n : Int) - 1
    · refine ev_pos h ?_
      by_cases h0 : i = 0
      · subst h0
        refine ev_neg (by omega) ?_
        rw [inc (by omega)]
        refine impl_isIncreasing.ev_l0 l n hn hl hw d 1 (by omega) (fun j hj => ?_)
        have : j = 0 := by omega
        subst this
        exact riseAt_yes h (.inl rfl)
      · have e2 : wrap64 ((i : Int) - 1) = ((i - 1 : Nat) : Int) := by unfold wrap64; omega
        refine ev_pos (by omega) ?_
        rw [e2]
        refine ev_pos (by omega) (ev_pos (by omega) ?_)
        by_cases h2 : rd l (i : Int) ≤ rd l ((i - 1 : Nat) : Int)
        · exact ev_pos h2 (ev_now (rising_no (i := i) (by omega) (riseAt_no (fun z => by rcases z.2 with z | z <;> omega))).symm)
        · refine ev_neg h2 ?_
          rw [inc (by omega)]
          refine impl_isIncreasing.ev_l0 l n hn hl hw d (i + 1) (by omega) (fun j hj => ?_)
          by_cases ej : j = i
          · subst ej; exact riseAt_yes h (.inr (by omega))
          · exact ha j (by omega)
    · exact ev_neg h (ev_now (rising_no (i := i) (by omega) (riseAt_no (fun z => h z.1))).symm)
theorem impl_isIncreasing.ev (l : List Int) (n : Nat) (hn : n ≤ 16) (hl : l.length ≤ 1048576) (hw : ∀ x ∈ l, (Lit.int .i64 x).wf = true) : Ev (fun k => impl_isIncreasing.f k l (n : Int)) (rising l n) := by
  unfold impl_isIncreasing.f
  exact impl_isIncreasing.ev_l0 l n hn hl hw l.length 0 (by omega) (fun j hj => absurd hj (by omega))

theorem impl_PartOf.ev_l1 (m : List (List Int)) (c : List Int) (hg : goodM m = true) (hc : c.length ≤ 1048576) (hcn : ∀ j, j < c.length → 0 ≤ rd c (j : Int) ∧ rd c (j : Int) < ((m.getD 0 []).length : Int)) (r : List Int) (i a : Nat) (ha : a < m.length) (out : List (List Int)) (ho : out.length < 5864062014805) {R : List (List Int) × Bool}
    (K : Ev (fun k => impl_PartOf.l0 k c r (r.length : Int) (wrap64 ((i : Int) + 1)) m (out ++ [partRow m c a])) R) : ∀ (d j : Nat) (o : List Int), j + d = c.length → o = (partRow m c a).take j →
    Ev (fun k => impl_PartOf.l1 k c (a : Int) o r (r.length : Int) (i : Int) c (c.length : Int) (j : Int) m out) R
  | 0, j, o, hj, hoj => by
    refine Ev.step (fun k => impl_PartOf.l1.eq_2 _ _ _ _ _ _ _ _ _ _ _ k) ?_
    refine ev_neg (by omega) (ev_pos ho ?_)
    rw [hoj, List.take_of_length_le (by rw [partRow_length]; omega)]
    exact K
  | d + 1, j, o, hj, hoj => by
    have hf := goodM_iff hg
    have e := hf.2.2 a ha
    have h2 := hcn j (by omega)
    have hol : o.length = j := by rw [hoj, List.length_take, partRow_length]; omega
    refine Ev.step (fun k => impl_PartOf.l1.eq_2 _ _ _ _ _ _ _ _ _ _ _ k) ?_
    simp only [rdSS0, Int.toNat_natCast]
    refine ev_pos (by omega) (ev_pos (by omega) (ev_pos (by omega) (ev_pos (by omega) (ev_pos (by omega) (ev_pos h2.1 (ev_pos (by omega) (ev_pos (by omega) ?_)))))))
    rw [inc (by omega)]
    exact impl_PartOf.ev_l1 m c hg hc hcn r i a ha out ho K d (j + 1) _ (by omega) (by rw [partRow_succ m c a j (by omega), ← hoj])
theorem impl_PartOf.ev_l0 (m : List (List Int)) (c r : List Int) (hg : goodM m = true) (hc : c.length ≤ 1048576) (hr : r.length ≤ 1048576) (hcn : ∀ j, j < c.length → 0 ≤ rd c (j : Int) ∧ rd c (j : Int) < ((m.getD 0 []).length : Int)) (hrn : ∀ j, j < r.length → 0 ≤ rd r (j : Int) ∧ rd r (j : Int) < (m.length : Int)) : ∀ (d i : Nat) (out : List (List Int)), i + d = r.length → out = (partM m r c).take i →
    Ev (fun k => impl_PartOf.l0 k c r (r.length : Int) (i : Int) m out) (partM m r c, true)
  | 0, i, out, hi, ho => by
    refine Ev.step (fun k => impl_PartOf.l0.eq_2 _ _ _ _ _ _ k) ?_
    refine ev_neg (by omega) (ev_now ?_)
    rw [ho, List.take_of_length_le (by rw [partM_length]; omega)]
  | d + 1, i, out, hi, ho => by
    have h2 := hrn i (by omega)
    have hol : out.length = i := by rw [ho, List.length_take, partM_length]; omega
    obtain ⟨a, ha⟩ := Int.eq_ofNat_of_zero_le h2.1
    refine Ev.step (fun k => impl_PartOf.l0.eq_2 _ _ _ _ _ _ k) ?_
    refine ev_pos (by omega) (ev_pos (by omega) (ev_pos (by omega) ?_))
    have ih := impl_PartOf.ev_l0 m c r hg hc hr hcn hrn d (i + 1) (out ++ [partRow m c a]) (by omega) (by rw [partM_succ m r c i (by omega), ← ho, ha, Int.toNat_natCast])
    rw [ha]
    exact impl_PartOf.ev_l1 m c hg hc hcn r i a (by omega) out (by omega) (by rw [inc (by omega)]; exact ih) c.length 0 [] (by omega) rfl
theorem impl_PartOf.ev_no (r c : List Int) (m : List (List Int)) (h : ¬ (goodM m = true ∧ rising r m.length = true ∧ rising c (m.getD 0 []).length = true ∧ r.length ≠ 0 ∧ c.length ≠ 0)) : Ev (fun k => impl_PartOf.j0 k r c true m) (partVal m r c) :=
  Ev.step (fun k => impl_PartOf.j0.eq_2 _ _ _ _ k) (ev_pos rfl (ev_now (partVal_no h).symm))
theorem impl_PartOf.ev (m : List (List Int)) (r c : List Int) (hr : r.length ≤ 1048576) (hc : c.length ≤ 1048576) (wr : ∀ x ∈ r, (Lit.int .i64 x).wf = true) (wc : ∀ x ∈ c, (Lit.int .i64 x).wf = true) : Ev (fun k => impl_PartOf.f k m r c) (partVal m r c) := by
  unfold impl_PartOf.f
  simp only [impl_GoodMatrix.ev, Option.bind_some]
  by_cases h : goodM m = true
  · have hf := goodM_iff h
    refine ev_pos h ?_
    by_cases h3 : r.length = 0
    · exact ev_pos (by omega) (impl_PartOf.ev_no _ _ _ (fun z => z.2.2.2.1 h3))
    refine ev_neg (by omega) ?_
    by_cases h4 : c.length = 0
    · exact ev_pos (by omega) (impl_PartOf.ev_no _ _ _ (fun z => z.2.2.2.2 h4))
    refine ev_neg (by omega) (ev_bind (impl_isIncreasing.ev r m.length (by omega) hr wr) ?_)
    by_cases h1 : rising r m.length = true
    · refine ev_pos h1 (ev_pos (by omega) ?_)
      simp only [rdSS0, Int.toNat_zero]
      refine ev_bind (impl_isIncreasing.ev c _ (by omega) hc wc) ?_
      by_cases h2 : rising c (m.getD 0 []).length = true
      · rw [h2]
        refine Ev.step (fun k => impl_PartOf.j0.eq_2 _ _ _ _ k) (ev_neg (by simp) ?_)
        refine ev_eq (impl_PartOf.ev_l0 m c r h hc hr (rising_in h2) (rising_in h1) r.length 0 [] (by omega) rfl) ?_
        exact (if_pos ⟨h, h1, h2, h3, h4⟩).symm
      · rw [Bool.eq_false_iff.mpr h2]
        exact impl_PartOf.ev_no _ _ _ (fun z => h2 z.2.2.1)
    · exact ev_neg h1 (impl_PartOf.ev_no _ _ _ (fun z => h1 z.2.1))
  · exact ev_neg h (impl_PartOf.ev_no _ _ _ (fun z => h z.1))

theorem laws_eqIntS.ev_l0 (l : List Int) (hl : l.length < 4611686018427387904) : ∀ (n i : Nat), i + n = l.length → Ev (fun k => laws_eqIntS.l0 k l l (i : Int)) true
  | 0, i, hi => by
    refine Ev.step (fun k => laws_eqIntS.l0.eq_2 _ _ _ k) ?_
    exact ev_neg (by omega) (ev_now rfl)
  | n + 1, i, hi => by
    refine Ev.step (fun k => laws_eqIntS.l0.eq_2 _ _ _ k) ?_
    refine ev_pos (by omega) (ev_pos (by omega) (ev_pos (by omega) (ev_pos rfl ?_)))
    rw [inc (by omega)]
    exact laws_eqIntS.ev_l0 l hl n (i + 1) (by omega)
theorem laws_eqIntS.ev (l : List Int) (hl : l.length ≤ 281474976710656) : Ev (fun k => laws_eqIntS.f k l l) true := by
  unfold laws_eqIntS.f
  exact ev_pos rfl (laws_eqIntS.ev_l0 l (by omega) l.length 0 (by omega))

theorem laws_markIntS.ev_l0 (a : Int) (m : Nat) (ha : 0 ≤ a) (hm : a + m < 4611686018427387904) : ∀ (n i : Nat) (o : List Int), i + n = m → o.length = m → o.take i = (markI a m).take i →
    Ev (fun k => laws_markIntS.l0 k o (a + (i : Nat)) (i : Int)) (a + (m : Nat), markI a m)
  | 0, i, o, hi, ho, ht => by
    refine Ev.step (fun k => laws_markIntS.l0.eq_2 _ _ _ k) ?_
    refine ev_neg (by omega) (ev_now ?_)
    have hb := markI_length a m
    rw [List.take_of_length_le (by omega), List.take_of_length_le (by omega)] at ht
    subst ht
    have : i = m := by omega
    rw [this]
  | n + 1, i, o, hi, ho, ht => by
    refine Ev.step (fun k => laws_markIntS.l0.eq_2 _ _ _ k) ?_
    refine ev_pos (by omega) (ev_pos (by omega) ?_)
    have e : wrap64 (a + (i : Nat) + 1) = a + ((i + 1 : Nat) : Int) := by unfold wrap64; omega
    rw [inc (by omega), e, Int.toNat_natCast]
    refine laws_markIntS.ev_l0 a m ha hm n (i + 1) _ (by omega) (by simpa using ho) ?_
    have hb := markI_length a m
    rw [take_set_succ _ _ _ (by omega), ht, List.take_succ_eq_append_getElem (by omega), markI_get]
theorem laws_markIntS.ev (l : List Int) (a : Int) (ha : 0 ≤ a) (hm : a + l.length < 4611686018427387904) : Ev (fun k => laws_markIntS.f k l a) (a + (l.length : Nat), markI a l.length) := by
  unfold laws_markIntS.f
  have := laws_markIntS.ev_l0 a l.length ha hm l.length 0 l (by omega) rfl rfl
  simpa using this

theorem partVal_rows (m : List (List Int)) (r c : List Int) : rowsLe 16 (partVal m r c).1 := by
  unfold partVal
  split
  · rename_i h
    have hf := goodM_iff h.1
    have h1 := rising_len h.2.1
    have h2 := rising_len h.2.2.1
    exact partM_rows m (by omega) (by omega)
  · exact nil_rows 16
theorem FnExactPartOf : ∀ (l : List (List Int)) (r c : List Int), (l.length ≤ maxLen ∧ ∀ r ∈ l, (r.length ≤ maxLen ∧ ∀ x ∈ r, (Lit.int .u8 x).wf = true)) → (r.length ≤ maxLen ∧ ∀ x ∈ r, (Lit.int .i64 x).wf = true) → (c.length ≤ maxLen ∧ ∀ x ∈ c, (Lit.int .i64 x).wf = true) → laws_FnExactPartOf.Facts l r c := by
  intro l r c hl hr0 hc0
  by_cases c1 : 1048576 < (r.length : Int)
  · exact .inl c1
  by_cases c2 : 1048576 < (c.length : Int)
  · exact .inr (.inl ⟨c1, c2⟩)
  have hsz := laws_szMatrix.ev l hl.1 (fun r hr => (hl.2 r hr).1) 1048576 (by decide) (by decide)
  by_cases h : (l.length : Int) + (totSS l : Int) ≤ 1048576
  · rw [if_pos h] at hsz
    have hr := rowsLe_of h
    have hz := partVal_rows l r c
    refine .inr (.inr (.inr ⟨_, l, r, c, (partVal l r c).1, (partVal l r c).2, c1, c2, Ev.rounds hsz, by omega, Ev.rounds (laws_toMatrix.ev l hr), Ev.rounds (laws_toIntS.ev r (by omega)), Ev.rounds (laws_toIntS.ev c (by omega)), ?_⟩))
    have hR : rowsLe 1048576 (partVal l r c).1 := ⟨by have := hz.1; omega, fun r hr => by have := hz.2 r hr; omega⟩
    have ht := totSS_small (by decide) hz
    have ht2 := totSS_small (by decide) hr
    have hs := spec_PartOf.ev l r c (by omega) (by omega) hr0.2 hc0.2
    have hi := impl_PartOf.ev l r c (by omega) (by omega) hr0.2 hc0.2
    generalize partVal l r c = v at *
    obtain ⟨R, b⟩ := v
    dsimp only at *
    exact ⟨Ev.rounds hs, Ev.rounds hi, Ev.rounds (laws_eqMatrix.ev R hR), Ev.rounds (laws_eqMatrix.ev l hr), Ev.rounds (laws_eqIntS.ev r (by omega)), Ev.rounds (laws_eqIntS.ev c (by omega)), Ev.rounds (laws_heldMatrix.ev R 1 (by decide) (by omega) (by omega)),
      fun l a h1 h2 => Ev.rounds (laws_markByteS.ev l a h1 h2), fun l a h1 h2 => Ev.rounds (laws_markIntS.ev l a h1 h2), ht2, by omega, by omega, ht⟩
  · rw [if_neg h] at hsz
    exact .inr (.inr (.inl ⟨_, c1, c2, Ev.rounds hsz, by decide⟩))

end Go.Proofs.Ytggiajjnfldkgaa.Pure
