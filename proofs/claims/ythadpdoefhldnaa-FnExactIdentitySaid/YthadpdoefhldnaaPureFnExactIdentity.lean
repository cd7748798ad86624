/- The given program's Identity returns what the reference's Identity returns, for all numbers, and what it returns is its own; there is no condition. -/
import Derived.Test.YthadpdoefhldnaaPFnExactIdentityx
import Derived.Test.YthadpdoefhldnaaWalkFnExactIdentity
import Derived.Test.YthadpdoefhldnaaKit
namespace Go.Proofs.Ythadpdoefhldnaa.Pure
open Go.RowKit Go.Proofs.Ythadpdoefhldnaa.PFnExactIdentity Go.Proofs.YthadpdoefhldnaaW.PrintWords Go.Proofs.YthadpdoefhldnaaW.PrintLast Go.Proofs.Ythadpdoefhldnaa.Gf Go.Proofs.Ythadpdoefhldnaa.Kit
set_option linter.unusedVariables false
set_option linter.unusedSimpArgs false

theorem laws_eqByteS.ev_l0 (l : List Int) (hl : l.length < 4611686018427387904) : ∀ (n i : Nat), i + n = l.length → Ev (fun k => laws_eqByteS.l0 k l l (i : Int)) true
  | 0, i, hi => by
    refine Ev.step (fun k => laws_eqByteS.l0.eq_2 _ _ _ k) ?_
    exact ev_neg (by omega) (ev_now rfl)
  | n + 1, i, hi => by
    refine Ev.step (fun k => laws_eqByteS.l0.eq_2 _ _ _ k) ?_
    refine ev_pos (by omega) (ev_pos (by omega) (ev_pos (by omega) (ev_pos rfl ?_)))
    rw [inc (by omega)]
    exact laws_eqByteS.ev_l0 l hl n (i + 1) (by omega)
theorem laws_eqByteS.ev (l : List Int) (hl : l.length ≤ 281474976710656) : Ev (fun k => laws_eqByteS.f k l l) true := by
  unfold laws_eqByteS.f
  exact ev_pos rfl (laws_eqByteS.ev_l0 l (by omega) l.length 0 (by omega))

theorem rdSS (l : List (List Int)) (i : Nat) (h : i < l.length) : rd_L1 l (i : Int) = l[i] := by unfold rd_L1; simp [List.getD, h]
theorem laws_eqByteSS.ev_l0 (l : List (List Int)) (hl : rowsLe 1048576 l) : ∀ (n i : Nat), i + n = l.length → Ev (fun k => laws_eqByteSS.l0 k l l (i : Int)) true
  | 0, i, hi => by
    refine Ev.step (fun k => laws_eqByteSS.l0.eq_2 _ _ _ k) ?_
    exact ev_neg (by omega) (ev_now rfl)
  | n + 1, i, hi => by
    have h1 := hl.1
    have h2 := hl.2 _ (List.getElem_mem (show i < l.length by omega))
    refine Ev.step (fun k => laws_eqByteSS.l0.eq_2 _ _ _ k) ?_
    refine ev_pos (by omega) (ev_pos (by omega) (ev_pos (by omega) ?_))
    rw [rdSS l i (by omega), inc (by omega)]
    exact ev_bind (laws_eqByteS.ev _ (by omega)) (ev_pos rfl (laws_eqByteSS.ev_l0 l hl n (i + 1) (by omega)))
theorem laws_eqByteSS.ev (l : List (List Int)) (hl : rowsLe 1048576 l) : Ev (fun k => laws_eqByteSS.f k l l) true := by
  unfold laws_eqByteSS.f
  exact ev_pos rfl (laws_eqByteSS.ev_l0 l hl l.length 0 (by omega))

theorem laws_eqMatrix.ev (l : List (List Int)) (hl : rowsLe 1048576 l) : Ev (fun k => laws_eqMatrix.f k l l) true := by
  unfold laws_eqMatrix.f
  exact ev_bind (laws_eqByteSS.ev l hl) (ev_pos rfl (ev_now rfl))

theorem spec_l1In.ev (a b c : Int) : spec_l1In.f a b c = some (decide (b ≤ a ∧ a ≤ c)) := by
  unfold spec_l1In.f
  by_cases h : a ≥ b
  · rw [if_pos h]; simp [h]
  · rw [if_neg h]; simp; omega

theorem spec_l2Blank.ev_l0 (n m : Nat) (hn : n ≤ 1048576) (hm : m ≤ 1048576) : ∀ (d i : Nat), i + d = n → Ev (fun k => spec_l2Blank.l0 k (n : Int) (m : Int) (i : Int) (blankM i m)) (blankM n m)
  | 0, i, hi => by
    obtain rfl : i = n := by omega
    refine Ev.step (fun k => spec_l2Blank.l0.eq_2 _ _ _ _ k) ?_
    exact ev_neg (by omega) (ev_now rfl)
  | d + 1, i, hi => by
    have ih := spec_l2Blank.ev_l0 n m hn hm d (i + 1) (by omega)
    refine Ev.step (fun k => spec_l2Blank.l0.eq_2 _ _ _ _ k) ?_
    refine ev_pos (by omega) (ev_pos (by omega) (ev_pos (by omega) (ev_pos (by simp [blankM]; omega) ?_)))
    rw [inc (by omega), Int.toNat_natCast]
    have e : blankM i m ++ [List.replicate m 0] = blankM (i + 1) m := by
      unfold blankM; rw [List.replicate_succ']
    rw [e]
    exact ih
theorem spec_l2Blank.ev (n m : Nat) (hn : n ≤ 1048576) (hm : m ≤ 1048576) : Ev (fun k => spec_l2Blank.f k (n : Int) (m : Int)) (blankM n m) := by
  unfold spec_l2Blank.f
  exact spec_l2Blank.ev_l0 n m hn hm n 0 (by omega)

def idPart (n i : Nat) : List (List Int) := (List.range n).map fun j => if j < i then (List.replicate n 0).set j 1 else List.replicate n 0
theorem idPart_length (n i : Nat) : (idPart n i).length = n := by simp [idPart]
theorem idPart_zero (n : Nat) : idPart n 0 = blankM n n := by
  apply List.ext_getElem
  · simp [idPart, blankM]
  · intro j h1 h2; simp [idPart, blankM]
theorem idPart_all (n : Nat) : idPart n n = idM n := by
  apply List.ext_getElem
  · simp [idPart, idM]
  · intro j h1 h2
    have : j < n := by simpa [idPart] using h1
    simp [idPart, idM, this]
theorem idPart_succ (n i : Nat) (hi : i < n) : (idPart n i).set i ((List.replicate n 0).set i 1) = idPart n (i + 1) := by
  apply List.ext_getElem
  · simp [idPart]
  · intro j h1 h2
    rw [List.getElem_set]
    by_cases e : i = j
    · subst e
      simp [idPart]
    · rw [if_neg e]
      simp only [idPart, List.getElem_map, List.getElem_range]
      by_cases h : j < i
      · rw [if_pos h, if_pos (by omega)]
      · rw [if_neg h, if_neg (by omega)]
theorem spec_l2Identity.ev_l0 (n : Nat) (hn : n ≤ 1048576) : ∀ (d i : Nat), i + d = n → Ev (fun k => spec_l2Identity.l0 k (n : Int) (i : Int) (idPart n i)) (idM n)
  | 0, i, hi => by
    obtain rfl : i = n := by omega
    refine Ev.step (fun k => spec_l2Identity.l0.eq_2 _ _ _ k) ?_
    exact ev_neg (by omega) (ev_now (idPart_all i))
  | d + 1, i, hi => by
    have hl := idPart_length n i
    have hg : rd_L1 (idPart n i) (i : Int) = List.replicate n 0 := by
      rw [rdSS _ i (by omega)]
      simp [idPart]
    have ih := spec_l2Identity.ev_l0 n hn d (i + 1) (by omega)
    refine Ev.step (fun k => spec_l2Identity.l0.eq_2 _ _ _ k) ?_
    rw [hg]
    refine ev_pos (by omega) (ev_pos (by omega) (ev_pos (by omega) (ev_pos (by simp; omega) ?_)))
    rw [inc (by omega), Int.toNat_natCast, idPart_succ n i (by omega)]
    exact ih
theorem spec_l2Identity.ev (n : Nat) (hn : n ≤ 1048576) : Ev (fun k => spec_l2Identity.f k (n : Int)) (idM n) := by
  unfold spec_l2Identity.f
  refine ev_bind (spec_l2Blank.ev n n hn hn) ?_
  have e : ((blankM n n).length : Int) = (n : Int) := by simp [blankM]
  rw [e, ← idPart_zero]
  exact spec_l2Identity.ev_l0 n hn n 0 (by omega)

def identityVal (n : Int) : List (List Int) × Bool := if 1 ≤ n ∧ n ≤ 16 then (idM n.toNat, true) else ([], false)

theorem spec_Identity.ev (n : Int) : Ev (fun k => spec_Identity.f k n) (identityVal n) := by
  unfold spec_Identity.f identityVal
  simp only [spec_l1In.ev, Option.bind_some, decide_eq_true_eq]
  by_cases h : 1 ≤ n ∧ n ≤ 16
  · refine ev_eq (ev_pos h ?_) (if_pos h).symm
    obtain ⟨m, rfl⟩ := Int.eq_ofNat_of_zero_le (show 0 ≤ n by omega)
    rw [Int.toNat_natCast]
    exact ev_bind (spec_l2Identity.ev m (by omega)) (ev_now rfl)
  · exact ev_eq (ev_neg h (ev_now rfl)) (if_neg h).symm

theorem impl_within.ev (a b c : Int) : impl_within.f a b c = some (decide (b ≤ a ∧ a ≤ c)) := by
  unfold impl_within.f
  by_cases h : a ≥ b
  · rw [if_pos h]; simp [h]
  · rw [if_neg h]; simp; omega

theorem impl_identity.ev_l0 (n : Nat) (hn : n ≤ 1048576) : ∀ (d i : Nat) (o : List (List Int)), i + d = n → o = (idM n).take i → Ev (fun k => impl_identity.l0 k (n : Int) o (n : Int) (i : Int)) (idM n)
  | 0, i, o, hi, ho => by
    refine Ev.step (fun k => impl_identity.l0.eq_2 _ _ _ _ k) ?_
    refine ev_neg (by omega) (ev_now ?_)
    rw [ho, List.take_of_length_le (by simp [idM]; omega)]
  | d + 1, i, o, hi, ho => by
    have hl : o.length = i := by rw [ho, List.length_take]; simp [idM]; omega
    refine Ev.step (fun k => impl_identity.l0.eq_2 _ _ _ _ k) ?_
    simp only [Option.bind_some, Int.toNat_natCast, List.length_replicate]
    refine ev_pos (by omega) (ev_pos (by omega) (ev_pos (by omega) (ev_pos (by omega) (ev_pos (by omega) (ev_pos (by omega) ?_)))))
    rw [inc (by omega)]
    refine impl_identity.ev_l0 n hn d (i + 1) _ (by omega) ?_
    rw [List.take_succ_eq_append_getElem (by simp [idM]; omega), ← ho]
    simp [idM]
theorem impl_identity.ev (n : Nat) (hn : n ≤ 1048576) : Ev (fun k => impl_identity.f k (n : Int)) (idM n) := by
  unfold impl_identity.f
  exact impl_identity.ev_l0 n hn n 0 [] (by omega) rfl

theorem impl_Identity.ev (n : Int) : Ev (fun k => impl_Identity.f k n) (identityVal n) := by
  unfold impl_Identity.f identityVal
  simp only [impl_within.ev, Option.bind_some, decide_eq_true_eq]
  by_cases h : 1 ≤ n ∧ n ≤ 16
  · refine ev_eq (ev_pos h ?_) (if_pos h).symm
    obtain ⟨m, rfl⟩ := Int.eq_ofNat_of_zero_le (show 0 ≤ n by omega)
    rw [Int.toNat_natCast]
    exact ev_bind (impl_identity.ev m (by omega)) (ev_now rfl)
  · exact ev_eq (ev_neg h (ev_now rfl)) (if_neg h).symm

theorem laws_markByteS.ev_l0 (a : Int) (m : Nat) (ha : 0 ≤ a) (hm : a + m < 4611686018427387904) : ∀ (n i : Nat) (o : List Int), i + n = m → o.length = m → o.take i = (markB a m).take i →
    Ev (fun k => laws_markByteS.l0 k o (a + (i : Nat)) (i : Int)) (a + (m : Nat), markB a m)
  | 0, i, o, hi, ho, ht => by
    refine Ev.step (fun k => laws_markByteS.l0.eq_2 _ _ _ k) ?_
    refine ev_neg (by omega) (ev_now ?_)
    have hb := markB_length a m
    rw [List.take_of_length_le (by omega), List.take_of_length_le (by omega)] at ht
    subst ht
    have : i = m := by omega
    rw [this]
  | n + 1, i, o, hi, ho, ht => by
    refine Ev.step (fun k => laws_markByteS.l0.eq_2 _ _ _ k) ?_
    refine ev_pos (by omega) (ev_pos (by omega) ?_)
    have e : wrap64 (a + (i : Nat) + 1) = a + ((i + 1 : Nat) : Int) := by unfold wrap64; omega
    rw [inc (by omega), e, Int.toNat_natCast]
    refine laws_markByteS.ev_l0 a m ha hm n (i + 1) _ (by omega) (by simpa using ho) ?_
    have hb := markB_length a m
    rw [take_set_succ _ _ _ (by omega), ht, List.take_succ_eq_append_getElem (by omega), markB_get]
theorem laws_markByteS.ev (l : List Int) (a : Int) (ha : 0 ≤ a) (hm : a + l.length < 4611686018427387904) : Ev (fun k => laws_markByteS.f k l a) (a + (l.length : Nat), markB a l.length) := by
  unfold laws_markByteS.f
  have := laws_markByteS.ev_l0 a l.length ha hm l.length 0 l (by omega) rfl rfl
  simpa using this

theorem laws_heldByteS.ev_l0 (a : Int) (m : Nat) (ha : 0 ≤ a) (hm : a + m < 4611686018427387904) : ∀ (n i : Nat), i + n = m →
    Ev (fun k => laws_heldByteS.l0 k (markB a m) (a + (i : Nat)) (i : Int)) (a + (m : Nat))
  | 0, i, hi => by
    have hb := markB_length a m
    refine Ev.step (fun k => laws_heldByteS.l0.eq_2 _ _ _ k) ?_
    refine ev_neg (by omega) (ev_now ?_)
    have : i = m := by omega
    rw [this]
  | n + 1, i, hi => by
    have hb := markB_length a m
    refine Ev.step (fun k => laws_heldByteS.l0.eq_2 _ _ _ k) ?_
    refine ev_pos (by omega) (ev_pos (by omega) (ev_pos (by rw [rd_get (by omega), markB_get]) ?_))
    have e : wrap64 (a + (i : Nat) + 1) = a + ((i + 1 : Nat) : Int) := by unfold wrap64; omega
    rw [inc (by omega), e]
    exact laws_heldByteS.ev_l0 a m ha hm n (i + 1) (by omega)
theorem laws_heldByteS.ev (a : Int) (m : Nat) (ha : 0 ≤ a) (hm : a + m < 4611686018427387904) : Ev (fun k => laws_heldByteS.f k (markB a m) a) (a + (m : Nat)) := by
  unfold laws_heldByteS.f
  have := laws_heldByteS.ev_l0 a m ha hm m 0 (by omega)
  simpa using this

theorem markSS_get (R : List (List Int)) : ∀ (a : Int) (i : Nat) (h : i < R.length), (markSS a R)[i]'(by rw [markSS_length]; exact h) = markB (a + (totSS (R.take i) : Nat)) (R[i]).length := by
  induction R with
  | nil => intro a i h; simp at h
  | cons r R ih =>
    intro a i h
    cases i with
    | zero => simp [markSS, totSS]
    | succ i =>
      have := ih (a + (r.length : Nat)) i (by simpa using h)
      simp only [markSS, List.getElem_cons_succ, List.take_succ_cons, totSS] at this ⊢
      rw [this]
      congr 1
      omega
theorem laws_heldByteSS.ev_l0 (R : List (List Int)) (a : Int) (ha : 0 ≤ a) (hm : a + (totSS R : Nat) < 4611686018427387904) (hl : R.length < 4611686018427387904) : ∀ (n i : Nat), i + n = R.length →
    Ev (fun k => laws_heldByteSS.l0 k (markSS a R) (a + (totSS (R.take i) : Nat)) (i : Int)) (a + (totSS R : Nat))
  | 0, i, hi => by
    have hb := markSS_length a R
    refine Ev.step (fun k => laws_heldByteSS.l0.eq_2 _ _ _ k) ?_
    refine ev_neg (by omega) (ev_now ?_)
    rw [List.take_of_length_le (by omega)]
  | n + 1, i, hi => by
    have hb := markSS_length a R
    have hlt : i < R.length := by omega
    have htake : totSS (R.take (i + 1)) = totSS (R.take i) + R[i].length := by
      rw [List.take_succ_eq_append_getElem hlt, totSS_append]; simp [totSS]
    have hle : totSS (R.take (i + 1)) ≤ totSS R := by
      have e := congrArg totSS (List.take_append_drop (i + 1) R)
      rw [totSS_append] at e
      omega
    have ih := laws_heldByteSS.ev_l0 R a ha hm hl n (i + 1) (by omega)
    rw [htake] at ih
    refine Ev.step (fun k => laws_heldByteSS.l0.eq_2 _ _ _ k) ?_
    refine ev_pos (by omega) (ev_pos (by omega) ?_)
    rw [rdSS _ i (by omega), markSS_get R a i hlt, inc (by omega)]
    refine ev_bind (laws_heldByteS.ev _ _ (by omega) (by omega)) (ev_neg (by omega) (ev_eq ?_ rfl))
    have e : a + ((totSS (R.take i) + R[i].length : Nat) : Int) = a + (totSS (R.take i) : Nat) + (R[i].length : Nat) := by omega
    rw [e] at ih
    exact ih
theorem laws_heldByteSS.ev (R : List (List Int)) (a : Int) (ha : 0 ≤ a) (hm : a + (totSS R : Nat) < 4611686018427387904) (hl : R.length < 4611686018427387904) : Ev (fun k => laws_heldByteSS.f k (markSS a R) a) (a + (totSS R : Nat)) := by
  unfold laws_heldByteSS.f
  have := laws_heldByteSS.ev_l0 R a ha hm hl R.length 0 (by omega)
  simpa [totSS] using this

theorem laws_heldMatrix.ev (R : List (List Int)) (a : Int) (ha : 0 ≤ a) (hm : a + (totSS R : Nat) < 4611686018427387904) (hl : R.length < 4611686018427387904) : Ev (fun k => laws_heldMatrix.f k (markSS a R) a) (a + (totSS R : Nat)) := by
  unfold laws_heldMatrix.f
  exact ev_bind (laws_heldByteSS.ev R a ha hm hl) (ev_neg (by omega) (ev_now rfl))

theorem identityVal_rows (n : Int) : rowsLe 16 (identityVal n).1 := by
  unfold identityVal
  split
  · rename_i h
    have := idM_rows n.toNat
    exact ⟨by have := this.1; show (idM _).length ≤ 16; omega, fun r hr => by have := this.2 r hr; omega⟩
  · exact nil_rows 16
theorem FnExactIdentity : ∀ (n : Int), (Lit.int .i64 n).wf = true → laws_FnExactIdentity.Facts n := by
  intro n _
  have hz := identityVal_rows n
  refine ⟨(identityVal n).1, (identityVal n).2, ?_⟩
  have hr : rowsLe 1048576 (identityVal n).1 := ⟨by have := hz.1; omega, fun r hr => by have := hz.2 r hr; omega⟩
  have ht := totSS_small (by decide) hz
  generalize hv : identityVal n = v at *
  obtain ⟨R, b⟩ := v
  dsimp only at ht hr hz
  exact ⟨Ev.rounds (hv ▸ spec_Identity.ev n), Ev.rounds (hv ▸ impl_Identity.ev n), Ev.rounds (laws_eqMatrix.ev R hr), Ev.rounds (laws_heldMatrix.ev R 1 (by decide) (by have := ht.1; omega) (by have := ht.2; omega)),
    fun l a h1 h2 => Ev.rounds (laws_markByteS.ev l a h1 h2), ht⟩

end Go.Proofs.Ythadpdoefhldnaa.Pure
