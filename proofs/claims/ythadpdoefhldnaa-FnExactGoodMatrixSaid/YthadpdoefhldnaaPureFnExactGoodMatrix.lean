/- The given program's GoodMatrix returns what the reference's GoodMatrix returns, for all matrices, and leaves the matrix as it was; there is no condition. -/
import Derived.Test.YthadpdoefhldnaaPFnExactGoodMatrixx3
import Derived.Test.YthadpdoefhldnaaKit
namespace Go.Proofs.Ythadpdoefhldnaa.Pure
open Go.RowKit Go.Proofs.Ythadpdoefhldnaa.PFnExactGoodMatrix Go.Proofs.YthadpdoefhldnaaW.PrintWords Go.Proofs.YthadpdoefhldnaaW.PrintLast Go.Proofs.Ythadpdoefhldnaa.Gf Go.Proofs.Ythadpdoefhldnaa.Kit
set_option linter.unusedVariables false
set_option linter.unusedSimpArgs false

theorem rdSS (l : List (List Int)) (i : Nat) (h : i < l.length) : rd_L1 l (i : Int) = l[i] := by unfold rd_L1; simp [List.getD, h]
theorem rdSS0 (l : List (List Int)) (i : Int) : rd_L1 l i = l.getD i.toNat [] := rfl
theorem laws_szByteS.ev (l : List Int) (a : Int) (hl : l.length ≤ maxLen) (h1 : 0 ≤ a) (h2 : a ≤ 1048576) : laws_szByteS.f l a = some (if (l.length : Int) ≤ a then a - (l.length : Int) else -1) := by
  unfold laws_szByteS.f
  unfold maxLen at hl
  have e : wrap64 (a - (l.length : Int)) = a - (l.length : Int) := by unfold wrap64; omega
  rw [e]
  by_cases h : (l.length : Int) ≤ a
  · rw [if_neg (by omega), if_pos h]
  · rw [if_pos (by omega), if_neg h]

theorem laws_szByteSS.ev_l0 (l : List (List Int)) (hl : l.length ≤ 1048576) (hr : ∀ r ∈ l, r.length ≤ maxLen) : ∀ (n i : Nat) (t : Int), i + n = l.length → 0 ≤ t → t ≤ 1048576 →
    Ev (fun k => laws_szByteSS.l0 k l t (i : Int)) (if (totSS (l.drop i) : Int) ≤ t then t - (totSS (l.drop i) : Int) else -1)
  | 0, i, t, hi, h0, h1 => by
    refine Ev.step (fun k => laws_szByteSS.l0.eq_2 _ _ _ k) ?_
    refine ev_neg (by omega) (ev_now ?_)
    rw [List.drop_of_length_le (by omega)]
    simp [totSS, h0]
  | n + 1, i, t, hi, h0, h1 => by
    have hlt : i < l.length := by omega
    have hm : i < 4611686018427387904 := by omega
    have he : totSS (l.drop i) = l[i].length + totSS (l.drop (i + 1)) := by rw [List.drop_eq_getElem_cons hlt]; rfl
    refine Ev.step (fun k => laws_szByteSS.l0.eq_2 _ _ _ k) ?_
    refine ev_pos (by omega) (ev_pos (by omega) ?_)
    rw [rdSS l i hlt, he]
    simp only [laws_szByteS.ev l[i] t (hr _ (List.getElem_mem hlt)) h0 h1, Option.bind_some]
    by_cases h : ((l[i]).length : Int) ≤ t
    · rw [if_pos h]
      refine ev_neg (by omega) ?_
      rw [inc hm]
      refine ev_eq (laws_szByteSS.ev_l0 l hl hr n (i + 1) (t - ((l[i]).length : Int)) (by omega) (by omega) (by omega)) ?_
      by_cases h2 : (totSS (l.drop (i + 1)) : Int) ≤ t - ((l[i]).length : Int)
      · rw [if_pos h2, if_pos (by omega)]; omega
      · rw [if_neg h2, if_neg (by omega)]
    · rw [if_neg h]
      refine ev_pos (by omega) (ev_now ?_)
      rw [if_neg (by omega)]
theorem laws_szByteSS.ev (l : List (List Int)) (hl : l.length ≤ maxLen) (hr : ∀ r ∈ l, r.length ≤ maxLen) (t : Int) (h0 : 0 ≤ t) (h1 : t ≤ 1048576) :
    Ev (fun k => laws_szByteSS.f k l t) (if (l.length : Int) + (totSS l : Int) ≤ t then t - (l.length : Int) - (totSS l : Int) else -1) := by
  unfold laws_szByteSS.f
  have e : wrap64 (t - (l.length : Int)) = t - (l.length : Int) := by unfold maxLen at hl; unfold wrap64; omega
  rw [e]
  by_cases h : (l.length : Int) ≤ t
  · refine ev_neg (by omega) (ev_eq (laws_szByteSS.ev_l0 l (by omega) hr l.length 0 _ (by omega) (by omega) (by omega)) ?_)
    rw [List.drop_zero]
    by_cases h2 : (totSS l : Int) ≤ t - (l.length : Int)
    · rw [if_pos h2, if_pos (by omega)]
    · rw [if_neg h2, if_neg (by omega)]
  · refine ev_pos (by omega) (ev_now ?_)
    rw [if_neg (by omega)]
theorem mem_totSS {l : List (List Int)} {r : List Int} (h : r ∈ l) : r.length ≤ totSS l := by
  induction l with
  | nil => simp at h
  | cons x l ih =>
    rcases List.mem_cons.1 h with rfl | h
    · simp [totSS]
    · have := ih h; simp only [totSS]; omega
theorem rowsLe_of {l : List (List Int)} (h : (l.length : Int) + (totSS l : Int) ≤ 1048576) : rowsLe 1048576 l := ⟨by omega, fun r hr => by have := mem_totSS hr; omega⟩

theorem laws_szMatrix.ev (l : List (List Int)) (hl : l.length ≤ maxLen) (hr : ∀ r ∈ l, r.length ≤ maxLen) (t : Int) (h0 : 0 ≤ t) (h1 : t ≤ 1048576) :
    Ev (fun k => laws_szMatrix.f k l t) (if (l.length : Int) + (totSS l : Int) ≤ t then t - (l.length : Int) - (totSS l : Int) else -1) := by
  unfold laws_szMatrix.f
  refine ev_bind (laws_szByteSS.ev l hl hr t h0 h1) ?_
  by_cases h : (l.length : Int) + (totSS l : Int) ≤ t
  · rw [if_pos h]; exact ev_neg (by omega) (ev_now rfl)
  · rw [if_neg h]; exact ev_pos (by omega) (ev_now rfl)

theorem spec_l1In.ev (a b c : Int) : spec_l1In.f a b c = some (decide (b ≤ a ∧ a ≤ c)) := by
  unfold spec_l1In.f
  by_cases h : a ≥ b
  · rw [if_pos h]; simp [h]
  · rw [if_neg h]; simp; omega

theorem goodM_first {l : List (List Int)} (h1 : 1 ≤ l.length ∧ l.length ≤ 16) (h2 : 1 ≤ (l.getD 0 []).length ∧ (l.getD 0 []).length ≤ 16) : goodM l = !((List.range l.length).any fun i => (l.getD i []).length != (l.getD 0 []).length) := by
  unfold goodM
  rw [decide_eq_true (show 1 ≤ l.length ∧ l.length ≤ 16 ∧ 1 ≤ (l.getD 0 []).length ∧ (l.getD 0 []).length ≤ 16 from ⟨h1.1, h1.2, h2⟩), Bool.true_and]
theorem goodM_no {l : List (List Int)} (h : ¬ (1 ≤ l.length ∧ l.length ≤ 16 ∧ 1 ≤ (l.getD 0 []).length ∧ (l.getD 0 []).length ≤ 16)) : goodM l = false := by
  unfold goodM
  rw [decide_eq_false h, Bool.false_and]
theorem spec_GoodMatrix.ev_l0 (l : List (List Int)) (h1 : 1 ≤ l.length ∧ l.length ≤ 16) (h2 : 1 ≤ (l.getD 0 []).length ∧ (l.getD 0 []).length ≤ 16) : ∀ (n i : Nat), i + n = l.length → (∀ j, j < i → (l.getD j []).length = (l.getD 0 []).length) →
    Ev (fun k => spec_GoodMatrix.l0 k l (l.length : Int) (i : Int) l) (goodM l)
  | 0, i, hi, ha => by
    refine Ev.step (fun k => spec_GoodMatrix.l0.eq_2 _ _ _ _ k) ?_
    refine ev_neg (by omega) (ev_now ?_)
    rw [goodM_first h1 h2]
    have : ((List.range l.length).any fun i => (l.getD i []).length != (l.getD 0 []).length) = false := by
      rw [List.any_eq_false]
      intro x hx
      have hx' : x < l.length := by simpa using hx
      simp only [ha x (by omega), bne_self_eq_false]
      simp
    rw [this]; rfl
  | n + 1, i, hi, ha => by
    refine Ev.step (fun k => spec_GoodMatrix.l0.eq_2 _ _ _ _ k) ?_
    refine ev_pos (by omega) (ev_pos (by omega) (ev_pos (by omega) (ev_pos (by omega) ?_)))
    simp only [rdSS0, Int.toNat_natCast, Int.toNat_zero]
    by_cases h : (l.getD i []).length = (l.getD 0 []).length
    · refine ev_pos (by omega) ?_
      rw [inc (by omega)]
      exact spec_GoodMatrix.ev_l0 l h1 h2 n (i + 1) (by omega) (fun j hj => by by_cases e : j = i; exact e ▸ h; exact ha j (by omega))
    · refine ev_neg (by omega) (ev_now ?_)
      rw [goodM_first h1 h2]
      have : ((List.range l.length).any fun i => (l.getD i []).length != (l.getD 0 []).length) = true := List.any_eq_true.2 ⟨i, by simp; omega, by simpa using h⟩
      rw [this]; rfl
theorem spec_GoodMatrix.ev (l : List (List Int)) : Ev (fun k => spec_GoodMatrix.f k l) (goodM l) := by
  unfold spec_GoodMatrix.f
  simp only [spec_l1In.ev, Option.bind_some, decide_eq_true_eq, rdSS0, Int.toNat_zero]
  by_cases h1 : 1 ≤ (l.length : Int) ∧ (l.length : Int) ≤ 16
  · refine ev_pos h1 (ev_pos (by omega) ?_)
    by_cases h2 : 1 ≤ ((l.getD 0 []).length : Int) ∧ ((l.getD 0 []).length : Int) ≤ 16
    · rw [decide_eq_true h2]
      refine Ev.step (fun k => spec_GoodMatrix.j0.eq_2 _ _ k) (ev_neg (by simp) ?_)
      exact spec_GoodMatrix.ev_l0 l (by omega) (by omega) l.length 0 (by omega) (fun j hj => absurd hj (by omega))
    · rw [decide_eq_false h2]
      refine Ev.step (fun k => spec_GoodMatrix.j0.eq_2 _ _ k) (ev_pos rfl (ev_now ?_))
      exact (goodM_no (by omega)).symm
  · refine ev_neg h1 ?_
    refine Ev.step (fun k => spec_GoodMatrix.j0.eq_2 _ _ k) (ev_pos rfl (ev_now ?_))
    exact (goodM_no (by omega)).symm

theorem laws_toByteS.ev_l0 (l : List Int) (hl : l.length < 4611686018427387904) : ∀ (n i : Nat) (o : List Int), i + n = l.length → o.length = l.length → o.take i = l.take i →
    Ev (fun k => laws_toByteS.l0 k l o (i : Int)) l
  | 0, i, o, hi, ho, ht => by
    refine Ev.step (fun k => laws_toByteS.l0.eq_2 _ _ _ k) ?_
    refine ev_neg (by omega) (ev_now ?_)
    rw [List.take_of_length_le (by omega), List.take_of_length_le (by omega)] at ht
    exact ht
  | n + 1, i, o, hi, ho, ht => by
    refine Ev.step (fun k => laws_toByteS.l0.eq_2 _ _ _ k) ?_
    refine ev_pos (by omega) (ev_pos (by omega) (ev_pos (by omega) ?_))
    rw [inc (by omega), Int.toNat_natCast]
    refine laws_toByteS.ev_l0 l hl n (i + 1) _ (by omega) (by simpa using ho) ?_
    rw [take_set_succ _ _ _ (by omega), ht, List.take_succ_eq_append_getElem (by omega), rd_get (by omega)]
theorem laws_toByteS.ev (l : List Int) (hl : l.length ≤ 281474976710656) : Ev (fun k => laws_toByteS.f k l) l := by
  unfold laws_toByteS.f
  refine ev_pos (by omega) (ev_pos (by omega) ?_)
  exact laws_toByteS.ev_l0 l (by omega) l.length 0 _ (by omega) (by simp) rfl

theorem laws_toByteSS.ev_l0 (l : List (List Int)) (hl : rowsLe 1048576 l) : ∀ (n i : Nat) (o : List (List Int)), i + n = l.length → o.length = l.length → o.take i = l.take i →
    Ev (fun k => laws_toByteSS.l0 k l o (i : Int)) l
  | 0, i, o, hi, ho, ht => by
    refine Ev.step (fun k => laws_toByteSS.l0.eq_2 _ _ _ k) ?_
    refine ev_neg (by omega) (ev_now ?_)
    rw [List.take_of_length_le (by omega), List.take_of_length_le (by omega)] at ht
    exact ht
  | n + 1, i, o, hi, ho, ht => by
    have h1 := hl.1
    have h2 := hl.2 _ (List.getElem_mem (show i < l.length by omega))
    refine Ev.step (fun k => laws_toByteSS.l0.eq_2 _ _ _ k) ?_
    refine ev_pos (by omega) (ev_pos (by omega) ?_)
    rw [rdSS l i (by omega)]
    refine ev_bind (laws_toByteS.ev _ (by omega)) (ev_pos (by omega) ?_)
    rw [inc (by omega), Int.toNat_natCast]
    refine laws_toByteSS.ev_l0 l hl n (i + 1) _ (by omega) (by simpa using ho) ?_
    have hs : (o.set i l[i]).take (i + 1) = o.take i ++ [l[i]] := by
      rw [List.take_succ_eq_append_getElem (by simp; omega)]
      simp [List.take_set_of_le]
    rw [hs, ht, List.take_succ_eq_append_getElem (by omega)]
theorem laws_toByteSS.ev (l : List (List Int)) (hl : rowsLe 1048576 l) : Ev (fun k => laws_toByteSS.f k l) l := by
  unfold laws_toByteSS.f
  have h1 := hl.1
  refine ev_pos (by omega) (ev_pos (by omega) ?_)
  exact laws_toByteSS.ev_l0 l hl l.length 0 _ (by omega) (by simp) rfl

theorem laws_toMatrix.ev (l : List (List Int)) (hl : rowsLe 1048576 l) : Ev (fun k => laws_toMatrix.f k l) l := by
  unfold laws_toMatrix.f
  exact ev_bind (laws_toByteSS.ev l hl) (ev_now rfl)

theorem impl_within.ev (a b c : Int) : impl_within.f a b c = some (decide (b ≤ a ∧ a ≤ c)) := by
  unfold impl_within.f
  by_cases h : a ≥ b
  · rw [if_pos h]; simp [h]
  · rw [if_neg h]; simp; omega

theorem impl_GoodMatrix.ev (l : List (List Int)) : impl_GoodMatrix.f l = some (goodM l) := rfl

theorem laws_eqByteS.ev_l0 (l : List Int) (hl : l.length < 4611686018427387904) : ∀ (n i : Nat), i + n = l.length → Ev (fun k => laws_eqByteS.l0 k l l (i : Int)) true
  | 0, i, hi => by
    refine Ev.step (fun k => laws_eqByteS.l0.eq_2 _ _ _ k) ?_
    exact ev_neg (by omega) (ev_now rfl)
  | n + 1, i, hi => by
    refine Ev.step (fun k => laws_eqByteS.l0.eq_2 _ _ _ k) ?_
    refine ev_pos (by omega) (ev_pos (by omega) (ev_pos (by omega) (ev_pos rfl ?_)))
    rw [inc (by omega)]
    exact laws_eqByteS.ev_l0 l hl n (i + 1) (by omega)
theorem laws_eqByteS.ev (l : List Int) (hl : l.length ≤ 281474976710656) : Ev (fun k => laws_eqByteS.f k l l) true := by
  unfold laws_eqByteS.f
  exact ev_pos rfl (laws_eqByteS.ev_l0 l (by omega) l.length 0 (by omega))

theorem laws_eqByteSS.ev_l0 (l : List (List Int)) (hl : rowsLe 1048576 l) : ∀ (n i : Nat), i + n = l.length → Ev (fun k => laws_eqByteSS.l0 k l l (i : Int)) true
  | 0, i, hi => by
    refine Ev.step (fun k => laws_eqByteSS.l0.eq_2 _ _ _ k) ?_
    exact ev_neg (by omega) (ev_now rfl)
  | n + 1, i, hi => by
    have h1 := hl.1
    have h2 := hl.2 _ (List.getElem_mem (show i < l.length by omega))
    refine Ev.step (fun k => laws_eqByteSS.l0.eq_2 _ _ _ k) ?_
    refine ev_pos (by omega) (ev_pos (by omega) (ev_pos (by omega) ?_))
    rw [rdSS l i (by omega), inc (by omega)]
    exact ev_bind (laws_eqByteS.ev _ (by omega)) (ev_pos rfl (laws_eqByteSS.ev_l0 l hl n (i + 1) (by omega)))
theorem laws_eqByteSS.ev (l : List (List Int)) (hl : rowsLe 1048576 l) : Ev (fun k => laws_eqByteSS.f k l l) true := by
  unfold laws_eqByteSS.f
  exact ev_pos rfl (laws_eqByteSS.ev_l0 l hl l.length 0 (by omega))

theorem laws_eqMatrix.ev (l : List (List Int)) (hl : rowsLe 1048576 l) : Ev (fun k => laws_eqMatrix.f k l l) true := by
  unfold laws_eqMatrix.f
  exact ev_bind (laws_eqByteSS.ev l hl) (ev_pos rfl (ev_now rfl))

theorem FnExactGoodMatrix : ∀ (l : List (List Int)), (l.length ≤ maxLen ∧ ∀ r ∈ l, (r.length ≤ maxLen ∧ ∀ x ∈ r, (Lit.int .u8 x).wf = true)) → ∃ k, laws_FnExactGoodMatrix.f k l = some true := by
  intro l hl
  refine Ev.rounds ?_
  unfold laws_FnExactGoodMatrix.f
  refine ev_bind (laws_szMatrix.ev l hl.1 (fun r hr => (hl.2 r hr).1) 1048576 (by decide) (by decide)) ?_
  by_cases h : (l.length : Int) + (totSS l : Int) ≤ 1048576
  · rw [if_pos h]
    have hr := rowsLe_of h
    have ht := laws_toMatrix.ev l hr
    refine ev_neg (by omega) (ev_bind ht (ev_bind (spec_GoodMatrix.ev l) (ev_bind ht ?_)))
    simp only [impl_GoodMatrix.ev, Option.bind_some]
    refine ev_neg (by simp) (ev_bind ht (ev_bind (laws_eqMatrix.ev l hr) (ev_pos rfl (ev_now rfl))))
  · rw [if_neg h]
    exact ev_pos (by omega) (ev_now rfl)

end Go.Proofs.Ythadpdoefhldnaa.Pure
