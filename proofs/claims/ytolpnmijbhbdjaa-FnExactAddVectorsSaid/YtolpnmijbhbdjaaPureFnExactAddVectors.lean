/- The given program's AddVectors returns what the reference's AddVectors returns, for all pairs of vectors, and keeps to itself what it was given and what it returns; there is no condition. -/
import Derived.Test.YtolpnmijbhbdjaaPFnExactAddVectorsx2
import Derived.Test.YtolpnmijbhbdjaaKit
namespace Go.Proofs.Ytolpnmijbhbdjaa.Pure
open Go.RowKit Go.Proofs.Ytolpnmijbhbdjaa.PFnExactAddVectors Go.Proofs.YtolpnmijbhbdjaaW.PrintWords Go.Proofs.YtolpnmijbhbdjaaW.PrintLast Go.Proofs.Ytolpnmijbhbdjaa.Gf Go.Proofs.Ytolpnmijbhbdjaa.Kit
set_option linter.unusedVariables false
set_option linter.unusedSimpArgs false

theorem spec_l1Add.ev_l0 (v w : List Int) (hv : Bytes v) (hw : Bytes w) (hl : v.length = w.length) (hs : v.length < 140737488355328) : ∀ (n i : Nat) (o : List Int), i + n = v.length → o = (addV v w).take i →
    Ev (fun k => spec_l1Add.l0 k v w o (v.length : Int) (i : Int)) (addV v w)
  | 0, i, o, hi, ho => by
    refine Ev.step (fun k => spec_l1Add.l0.eq_2 _ _ _ _ _ k) ?_
    refine ev_neg (by omega) (ev_now ?_)
    subst ho
    rw [List.take_of_length_le (by rw [addV_length]; omega)]
  | n + 1, i, o, hi, ho => by
    have hz := addV_length v w
    have hlen : o.length = i := by rw [ho, List.length_take, hz]; omega
    refine Ev.step (fun k => spec_l1Add.l0.eq_2 _ _ _ _ _ k) ?_
    refine ev_pos (by omega) (ev_pos (by omega) (ev_pos (by omega) (ev_pos (by omega) (ev_pos (by omega) ?_))))
    rw [inc (by omega), xor_u8 (bytes_rd hv (by omega)) (bytes_rd hw (by omega)), rd_get (by omega), rd_get (by omega)]
    refine spec_l1Add.ev_l0 v w hv hw hl hs n (i + 1) _ (by omega) ?_
    rw [List.take_succ_eq_append_getElem (by omega), ← ho]
    simp [addV]
theorem spec_l1Add.ev {v w : List Int} (hv : Bytes v) (hw : Bytes w) (hl : v.length = w.length) (hs : v.length < 140737488355328) : Ev (fun k => spec_l1Add.f k v w) (addV v w) := by
  unfold spec_l1Add.f
  exact spec_l1Add.ev_l0 v w hv hw hl hs v.length 0 [] (by omega) rfl

def spec_AddVectors.val (v w : List Int) : List Int × Bool := if 80 < v.length ∨ v.length ≠ w.length then ([], false) else (addV v w, true)
theorem spec_AddVectors.ev {v w : List Int} (hv : Bytes v) (hw : Bytes w) : Ev (fun k => spec_AddVectors.f k v w) (spec_AddVectors.val v w) := by
  unfold spec_AddVectors.f spec_AddVectors.val
  by_cases h1 : 80 < v.length
  · rw [if_pos (Or.inl h1)]
    exact ev_pos (by omega) (ev_now rfl)
  · by_cases h2 : v.length = w.length
    · rw [if_neg (by omega)]
      exact ev_neg (by omega) (ev_pos (by omega) (ev_bind (spec_l1Add.ev hv hw h2 (by omega)) (ev_now rfl)))
    · rw [if_pos (Or.inr h2)]
      exact ev_neg (by omega) (ev_neg (by omega) (ev_now rfl))

theorem laws_toByteS.ev_l0 (l : List Int) (hl : l.length < 4611686018427387904) : ∀ (n i : Nat) (o : List Int), i + n = l.length → o.length = l.length → o.take i = l.take i →
    Ev (fun k => laws_toByteS.l0 k l o (i : Int)) l
  | 0, i, o, hi, ho, ht => by
    refine Ev.step (fun k => laws_toByteS.l0.eq_2 _ _ _ k) ?_
    refine ev_neg (by omega) (ev_now ?_)
    rw [List.take_of_length_le (by omega), List.take_of_length_le (by omega)] at ht
    exact ht
  | n + 1, i, o, hi, ho, ht => by
    refine Ev.step (fun k => laws_toByteS.l0.eq_2 _ _ _ k) ?_
    refine ev_pos (by omega) (ev_pos (by omega) (ev_pos (by omega) ?_))
    rw [inc (by omega), Int.toNat_natCast]
    refine laws_toByteS.ev_l0 l hl n (i + 1) _ (by omega) (by simpa using ho) ?_
    rw [take_set_succ _ _ _ (by omega), ht, List.take_succ_eq_append_getElem (by omega), rd_get (by omega)]
theorem laws_toByteS.ev (l : List Int) (hl : l.length ≤ 281474976710656) : Ev (fun k => laws_toByteS.f k l) l := by
  unfold laws_toByteS.f
  refine ev_pos (by omega) (ev_pos (by omega) ?_)
  exact laws_toByteS.ev_l0 l (by omega) l.length 0 _ (by omega) (by simp) rfl

theorem impl_added.ev_l0 (v w : List Int) (hv : Bytes v) (hw : Bytes w) (hl : v.length = w.length) (hs : v.length < 140737488355328) : ∀ (n i : Nat) (o : List Int), i + n = v.length → o = (addV v w).take i →
    Ev (fun k => impl_added.l0 k w o v (v.length : Int) (i : Int)) (addV v w)
  | 0, i, o, hi, ho => by
    refine Ev.step (fun k => impl_added.l0.eq_2 _ _ _ _ _ k) ?_
    refine ev_neg (by omega) (ev_now ?_)
    subst ho
    rw [List.take_of_length_le (by rw [addV_length]; omega)]
  | n + 1, i, o, hi, ho => by
    have hz := addV_length v w
    have hlen : o.length = i := by rw [ho, List.length_take, hz]; omega
    refine Ev.step (fun k => impl_added.l0.eq_2 _ _ _ _ _ k) ?_
    refine ev_pos (by omega) (ev_pos (by omega) (ev_pos (by omega) (ev_pos (by omega) (ev_pos (by omega) ?_))))
    rw [inc (by omega), xor_u8 (bytes_rd hv (by omega)) (bytes_rd hw (by omega)), rd_get (by omega), rd_get (by omega)]
    refine impl_added.ev_l0 v w hv hw hl hs n (i + 1) _ (by omega) ?_
    rw [List.take_succ_eq_append_getElem (by omega), ← ho]
    simp [addV]
theorem impl_added.ev {v w : List Int} (hv : Bytes v) (hw : Bytes w) (hl : v.length = w.length) (hs : v.length < 140737488355328) : Ev (fun k => impl_added.f k v w) (addV v w) := by
  unfold impl_added.f
  exact impl_added.ev_l0 v w hv hw hl hs v.length 0 [] (by omega) rfl

def impl_AddVectors.val (v w : List Int) : List Int × Bool := if 80 < v.length ∨ v.length ≠ w.length then ([], false) else (addV v w, true)
theorem impl_AddVectors.ev {v w : List Int} (hv : Bytes v) (hw : Bytes w) : Ev (fun k => impl_AddVectors.f k v w) (impl_AddVectors.val v w) := by
  unfold impl_AddVectors.f impl_AddVectors.val
  by_cases h1 : 80 < v.length
  · rw [if_pos (Or.inl h1)]
    exact ev_pos (by omega) (ev_now rfl)
  · by_cases h2 : v.length = w.length
    · rw [if_neg (by omega)]
      exact ev_neg (by omega) (ev_pos (by omega) (ev_bind (impl_added.ev hv hw h2 (by omega)) (ev_now rfl)))
    · rw [if_pos (Or.inr h2)]
      exact ev_neg (by omega) (ev_neg (by omega) (ev_now rfl))

theorem laws_eqByteS.ev_l0 (l : List Int) (hl : l.length < 4611686018427387904) : ∀ (n i : Nat), i + n = l.length → Ev (fun k => laws_eqByteS.l0 k l l (i : Int)) true
  | 0, i, hi => by
    refine Ev.step (fun k => laws_eqByteS.l0.eq_2 _ _ _ k) ?_
    exact ev_neg (by omega) (ev_now rfl)
  | n + 1, i, hi => by
    refine Ev.step (fun k => laws_eqByteS.l0.eq_2 _ _ _ k) ?_
    refine ev_pos (by omega) (ev_pos (by omega) (ev_pos (by omega) (ev_pos rfl ?_)))
    rw [inc (by omega)]
    exact laws_eqByteS.ev_l0 l hl n (i + 1) (by omega)
theorem laws_eqByteS.ev (l : List Int) (hl : l.length ≤ 281474976710656) : Ev (fun k => laws_eqByteS.f k l l) true := by
  unfold laws_eqByteS.f
  exact ev_pos rfl (laws_eqByteS.ev_l0 l (by omega) l.length 0 (by omega))

theorem laws_markByteS.ev_l0 (a : Int) (m : Nat) (ha : 0 ≤ a) (hm : a + m < 4611686018427387904) : ∀ (n i : Nat) (o : List Int), i + n = m → o.length = m → o.take i = (markB a m).take i →
    Ev (fun k => laws_markByteS.l0 k o (a + (i : Nat)) (i : Int)) (a + (m : Nat), markB a m)
  | 0, i, o, hi, ho, ht => by
    refine Ev.step (fun k => laws_markByteS.l0.eq_2 _ _ _ k) ?_
    refine ev_neg (by omega) (ev_now ?_)
    have hb := markB_length a m
    rw [List.take_of_length_le (by omega), List.take_of_length_le (by omega)] at ht
    subst ht
    have : i = m := by omega
    rw [this]
  | n + 1, i, o, hi, ho, ht => by
    refine Ev.step (fun k => laws_markByteS.l0.eq_2 _ _ _ k) ?_
    refine ev_pos (by omega) (ev_pos (by omega) ?_)
    have e : wrap64 (a + (i : Nat) + 1) = a + ((i + 1 : Nat) : Int) := by unfold wrap64; omega
    rw [inc (by omega), e, Int.toNat_natCast]
    refine laws_markByteS.ev_l0 a m ha hm n (i + 1) _ (by omega) (by simpa using ho) ?_
    have hb := markB_length a m
    rw [take_set_succ _ _ _ (by omega), ht, List.take_succ_eq_append_getElem (by omega), markB_get]
theorem laws_markByteS.ev (l : List Int) (a : Int) (ha : 0 ≤ a) (hm : a + l.length < 4611686018427387904) : Ev (fun k => laws_markByteS.f k l a) (a + (l.length : Nat), markB a l.length) := by
  unfold laws_markByteS.f
  have := laws_markByteS.ev_l0 a l.length ha hm l.length 0 l (by omega) rfl rfl
  simpa using this

theorem laws_heldByteS.ev_l0 (a : Int) (m : Nat) (ha : 0 ≤ a) (hm : a + m < 4611686018427387904) : ∀ (n i : Nat), i + n = m →
    Ev (fun k => laws_heldByteS.l0 k (markB a m) (a + (i : Nat)) (i : Int)) (a + (m : Nat))
  | 0, i, hi => by
    have hb := markB_length a m
    refine Ev.step (fun k => laws_heldByteS.l0.eq_2 _ _ _ k) ?_
    refine ev_neg (by omega) (ev_now ?_)
    have : i = m := by omega
    rw [this]
  | n + 1, i, hi => by
    have hb := markB_length a m
    refine Ev.step (fun k => laws_heldByteS.l0.eq_2 _ _ _ k) ?_
    refine ev_pos (by omega) (ev_pos (by omega) (ev_pos (by rw [rd_get (by omega), markB_get]) ?_))
    have e : wrap64 (a + (i : Nat) + 1) = a + ((i + 1 : Nat) : Int) := by unfold wrap64; omega
    rw [inc (by omega), e]
    exact laws_heldByteS.ev_l0 a m ha hm n (i + 1) (by omega)
theorem laws_heldByteS.ev (a : Int) (m : Nat) (ha : 0 ≤ a) (hm : a + m < 4611686018427387904) : Ev (fun k => laws_heldByteS.f k (markB a m) a) (a + (m : Nat)) := by
  unfold laws_heldByteS.f
  have := laws_heldByteS.ev_l0 a m ha hm m 0 (by omega)
  simpa using this

theorem spec_AddVectors.val_len (v w : List Int) : (spec_AddVectors.val v w).1.length ≤ 80 := by
  unfold spec_AddVectors.val
  split
  · simp
  · simp only [addV_length]; omega
theorem FnExactAddVectors : ∀ (v w : List Int), (v.length ≤ maxLen ∧ ∀ x ∈ v, (Lit.int .u8 x).wf = true) → (w.length ≤ maxLen ∧ ∀ x ∈ w, (Lit.int .u8 x).wf = true) → ∃ k, laws_FnExactAddVectors.f k v w = some true := by
  intro v w hv hw
  have hv := Bytes.of_wf hv.2
  have hw := Bytes.of_wf hw.2
  refine Ev.rounds ?_
  unfold laws_FnExactAddVectors.f
  by_cases h1 : v.length > 1048576
  · exact ev_pos (by omega) (ev_now rfl)
  by_cases h2 : w.length > 1048576
  · exact ev_neg (by omega) (ev_pos (by omega) (ev_now rfl))
  refine ev_neg (by omega) (ev_neg (by omega) ?_)
  have hs := spec_AddVectors.ev hv hw
  have hi : Ev (fun k => impl_AddVectors.f k v w) (spec_AddVectors.val v w) := impl_AddVectors.ev hv hw
  have hz := spec_AddVectors.val_len v w
  generalize spec_AddVectors.val v w = rb at hs hi hz
  obtain ⟨r, b⟩ := rb
  repeat first
    | exact ev_now rfl
    | refine ev_bind hs ?_
    | refine ev_bind hi ?_
    | refine ev_bind (laws_toByteS.ev _ (by omega)) ?_
    | refine ev_bind (laws_eqByteS.ev _ (by omega)) ?_
    | refine ev_bind (laws_markByteS.ev _ _ (by omega) (by omega)) ?_
    | refine ev_bind (laws_heldByteS.ev _ _ (by omega) (by omega)) ?_
    | refine Ev.step (fun k => laws_FnExactAddVectors.j0.eq_2 _ _ _ _ _ _ _ _ _ k) ?_
    | refine Ev.step (fun k => laws_FnExactAddVectors.j1.eq_2 _ _ _ _ _ _ k) ?_
    | refine Ev.step (fun k => laws_FnExactAddVectors.j2.eq_2 _ _ _ k) ?_
    | refine ev_pos rfl ?_
    | (refine ev_neg ?hc ?_; (case hc => first | omega | (simp; done) | (simp; omega)))
    | (refine ev_pos ?hc ?_; (case hc => first | omega | (simp; done)))

end Go.Proofs.Ytolpnmijbhbdjaa.Pure
