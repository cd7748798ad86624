/- The given program's HelpersOf returns what the reference's HelpersOf returns, for all codes and numbers, and what it returns is its own; there is no condition. -/
import Derived.Test.YthadpdoefhldnaaPFnExactHelpersOfx4
import Derived.Test.YthadpdoefhldnaaKit
namespace Go.Proofs.Ythadpdoefhldnaa.Pure
open Go.RowKit Go.Proofs.Ythadpdoefhldnaa.PFnExactHelpersOf Go.Proofs.YthadpdoefhldnaaW.PrintWords Go.Proofs.YthadpdoefhldnaaW.PrintLast Go.Proofs.Ythadpdoefhldnaa.Gf Go.Proofs.Ythadpdoefhldnaa.Kit
set_option linter.unusedVariables false
set_option linter.unusedSimpArgs false

theorem spec_l1In.ev (a b c : Int) : spec_l1In.f a b c = some (decide (b ≤ a ∧ a ≤ c)) := by
  unfold spec_l1In.f
  by_cases h : a ≥ b
  · rw [if_pos h]; simp [h]
  · rw [if_neg h]; simp; omega

theorem spec_GoodLocal.ev (g e m : Int) : spec_GoodLocal.f g e m = some (decide (GoodLocal g e m)) := by
  unfold spec_GoodLocal.f
  simp only [spec_l1In.ev, Option.bind_some, decide_eq_true_eq]
  by_cases h1 : 1 ≤ g ∧ g ≤ 4
  · by_cases h2 : 1 ≤ e ∧ e ≤ 4
    · have em := (small_mul ⟨h1, h2⟩).1
      rw [em]
      by_cases h3 : g * e ≤ 8 <;> simp [h1, h2, h3]
    · simp [h1, h2]
  · simp [h1]

theorem spec_l4Data.ev {g e m : Int} (h : GoodLocal g e m) : spec_l4Data.f g e m = some (g * e) := by
  unfold spec_l4Data.f
  rw [(small_mul h.1).1]

theorem spec_l4Group.ev {g e m : Int} (h : GoodLocal g e m) (no : Int) : spec_l4Group.f g e m no = some (groupOf g e no) := by
  have hm := small_mul h.1
  obtain ⟨⟨⟨hg1, hg2⟩, he1, he2⟩, h8, _⟩ := h
  unfold spec_l4Group.f groupOf
  have e1 : wrap64 (g * e - 1) = g * e - 1 := by unfold wrap64; omega
  have e2 : wrap64 (wrap64 (g * e + g) - 1) = g * e + g - 1 := by unfold wrap64; omega
  simp only [spec_l4Data.f, hm.1, spec_l1In.ev, Option.bind_some, decide_eq_true_eq, e1, e2]
  by_cases c1 : 0 ≤ no ∧ no ≤ g * e - 1
  · rw [if_pos c1, if_pos c1, if_neg (by omega), Int.tdiv_eq_ediv_of_nonneg c1.1]
    have q1 : 0 ≤ no / e := Int.ediv_nonneg c1.1 (by omega)
    have q2 : no / e ≤ no := Int.ediv_le_self _ c1.1
    rw [wrap_id q1 (by omega)]
  · rw [if_neg c1, if_neg c1]
    by_cases c2 : g * e ≤ no ∧ no ≤ g * e + g - 1
    · rw [if_pos c2, if_pos c2, wrap_id (by omega) (by omega)]
    · rw [if_neg c2, if_neg c2]

theorem spec_l4Many.ev {g e m : Int} (h : GoodLocal g e m) : spec_l4Many.f g e m = some (g * e + g + m) := by
  have hm := small_mul h.1
  unfold spec_l4Many.f
  simp only [spec_l4Data.ev h, Option.bind_some]
  have e1 : wrap64 (wrap64 (g * e + g) + m) = g * e + g + m := by unfold wrap64; omega
  rw [e1]

def helps (g e no : Int) : Nat → List Int
  | 0 => []
  | n + 1 => helps g e no n ++ (if (n : Int) ≠ no ∧ groupOf g e n = groupOf g e no then [(n : Int)] else [])
theorem helps_length (g e no : Int) : ∀ n, (helps g e no n).length ≤ n
  | 0 => by simp [helps]
  | n + 1 => by
    have := helps_length g e no n
    unfold helps
    rw [List.length_append]
    split <;> simp <;> omega
theorem spec_HelpersOf.ev_l0 {g e m : Int} (h : GoodLocal g e m) (no : Int) (N : Nat) (hN : (N : Int) = g * e + g + m) : ∀ (n i : Nat), i + n = N →
    Ev (fun k => spec_HelpersOf.l0 k no (helps g e no i) (i : Int) g e m) (helps g e no N, true)
  | 0, i, hi => by
    refine Ev.step (fun k => spec_HelpersOf.l0.eq_2 _ _ _ _ _ _ k) ?_
    simp only [spec_l4Many.ev h, Option.bind_some]
    obtain rfl : i = N := by omega
    exact ev_neg (by omega) (ev_now rfl)
  | n + 1, i, hi => by
    have hm := small_mul h.1
    have hs : N ≤ 64 := by omega
    refine Ev.step (fun k => spec_HelpersOf.l0.eq_2 _ _ _ _ _ _ k) ?_
    simp only [spec_l4Many.ev h, spec_l4Group.ev h, Option.bind_some]
    have hl := helps_length g e no i
    have ih := spec_HelpersOf.ev_l0 h no N hN n (i + 1) (by omega)
    refine ev_pos (by omega) ?_
    rw [inc (by omega)]
    by_cases c1 : (i : Int) = no
    · refine ev_pos c1 ?_
      have : helps g e no (i + 1) = helps g e no i := by
        rw [helps, if_neg (fun z => z.1 c1), List.append_nil]
      rw [this] at ih
      exact ih
    · refine ev_neg c1 ?_
      by_cases c2 : groupOf g e i = groupOf g e no
      · refine ev_pos c2 (ev_pos (by omega) ?_)
        have : helps g e no (i + 1) = helps g e no i ++ [(i : Int)] := by
          rw [helps, if_pos ⟨c1, c2⟩]
        rw [this] at ih
        exact ih
      · refine ev_neg c2 ?_
        have : helps g e no (i + 1) = helps g e no i := by
          rw [helps, if_neg (fun z => c2 z.2), List.append_nil]
        rw [this] at ih
        exact ih
def spec_HelpersOf.val (g e m no : Int) : List Int × Bool := if GoodLocal g e m ∧ 0 ≤ no ∧ no ≤ g * e + g - 1 then (helps g e no (g * e + g + m).toNat, true) else ([], false)
theorem spec_HelpersOf.ev (g e m no : Int) : Ev (fun k => spec_HelpersOf.f k g e m no) (spec_HelpersOf.val g e m no) := by
  unfold spec_HelpersOf.f spec_HelpersOf.val
  simp only [spec_GoodLocal.ev, Option.bind_some, decide_eq_true_eq]
  by_cases h : GoodLocal g e m
  · have hn := groupOf_neg h no
    have hm := small_mul h.1
    simp only [if_pos h, spec_l4Group.ev h, Option.bind_some]
    refine Ev.step (fun k => spec_HelpersOf.j0.eq_2 _ _ _ _ _ k) ?_
    by_cases c : groupOf g e no < 0
    · refine ev_eq ?_ (if_neg (fun z => (hn.1 c) z.2)).symm
      exact ev_pos (by simpa using c) (ev_now rfl)
    · refine ev_eq ?_ (if_pos ⟨h, Decidable.of_not_not (fun z => c (hn.2 z))⟩).symm
      refine ev_neg (by simpa using c) ?_
      exact spec_HelpersOf.ev_l0 h no (g * e + g + m).toNat (by omega) _ 0 (Nat.zero_add _)
  · simp only [if_neg h]
    refine ev_eq ?_ (if_neg (fun z => h z.1)).symm
    refine Ev.step (fun k => spec_HelpersOf.j0.eq_2 _ _ _ _ _ k) ?_
    exact ev_pos rfl (ev_now rfl)

theorem laws_toLocal.ev (g e m : Int) : laws_toLocal.f g e m = some (g, e, m) := rfl

theorem impl_Local_data.ev {g e m : Int} (h : GoodLocal g e m) : impl_Local_data.f g e m = some (g * e) := by
  unfold impl_Local_data.f
  rw [(small_mul h.1).1]

theorem impl_within.ev (a b c : Int) : impl_within.f a b c = some (decide (b ≤ a ∧ a ≤ c)) := by
  unfold impl_within.f
  by_cases h : a ≥ b
  · rw [if_pos h]; simp [h]
  · rw [if_neg h]; simp; omega

theorem impl_GoodLocal.ev (g e m : Int) : impl_GoodLocal.f g e m = some (decide (GoodLocal g e m)) := by
  unfold impl_GoodLocal.f
  simp only [impl_within.ev, Option.bind_some, decide_eq_true_eq]
  by_cases h1 : 1 ≤ g ∧ g ≤ 4
  · by_cases h2 : 1 ≤ e ∧ e ≤ 4
    · have em := (small_mul ⟨h1, h2⟩).1
      rw [em]
      by_cases h3 : g * e ≤ 8 <;> simp [h1, h2, h3]
    · simp [h1, h2]
  · simp [h1]

theorem impl_GroupOf.ev (g e m no : Int) : Ev (fun k => impl_GroupOf.f k g e m no) (if GoodLocal g e m ∧ 0 ≤ no ∧ no ≤ g * e + g - 1 then ((if no < g * e then no / e else no - g * e), true) else (0, false)) := by
  unfold impl_GroupOf.f
  simp only [impl_GoodLocal.ev, Option.bind_some, decide_eq_true_eq]
  by_cases h : GoodLocal g e m
  · have hm := small_mul h.1
    have h' := h
    obtain ⟨⟨⟨hg1, hg2⟩, he1, he2⟩, h8, _⟩ := h'
    have e2 : wrap64 (wrap64 (g * e + g) - 1) = g * e + g - 1 := by unfold wrap64; omega
    simp only [if_pos h, impl_Local_data.ev h, impl_within.ev, Option.bind_some, e2]
    refine Ev.step (fun k => impl_GroupOf.j0.eq_2 _ _ _ _ _ k) ?_
    by_cases c : 0 ≤ no ∧ no ≤ g * e + g - 1
    · refine ev_eq ?_ (if_pos ⟨h, c⟩).symm
      refine ev_neg (by simp [c]) ?_
      simp only [impl_Local_data.ev h, Option.bind_some]
      by_cases d : no < g * e
      · refine ev_pos d (ev_neg (by omega) (ev_now ?_))
        have q1 : 0 ≤ no / e := Int.ediv_nonneg c.1 (by omega)
        have q2 : no / e ≤ no := Int.ediv_le_self _ c.1
        rw [if_pos d, Int.tdiv_eq_ediv_of_nonneg c.1, wrap_id q1 (by omega)]
      · refine ev_neg d (ev_now ?_)
        rw [if_neg d, wrap_id (by omega) (by omega)]
    · refine ev_eq ?_ (if_neg (fun z => c z.2)).symm
      exact ev_pos (by simp [c]) (ev_now rfl)
  · simp only [if_neg h]
    refine ev_eq ?_ (if_neg (fun z => h z.1)).symm
    refine Ev.step (fun k => impl_GroupOf.j0.eq_2 _ _ _ _ _ k) ?_
    exact ev_pos rfl (ev_now rfl)
theorem impl_GroupOf.same (g e m no : Int) : Ev (fun k => impl_GroupOf.f k g e m no) (groupVal g e m no) := by
  refine ev_eq (impl_GroupOf.ev g e m no) ?_
  unfold groupVal groupOf
  by_cases h : GoodLocal g e m ∧ 0 ≤ no ∧ no ≤ g * e + g - 1
  · rw [if_pos h, if_pos h]
    by_cases d : no < g * e
    · rw [if_pos d, if_pos ⟨h.2.1, by omega⟩]
    · rw [if_neg d, if_neg (by omega), if_pos ⟨by omega, h.2.2⟩]
  · rw [if_neg h, if_neg h]

theorem impl_GroupOf.in_ {g e m no : Int} (h : GoodLocal g e m) (h0 : 0 ≤ no) (h1 : no ≤ g * e + g - 1) : Ev (fun k => impl_GroupOf.f k g e m no) (groupOf g e no, true) := by
  have := impl_GroupOf.same g e m no
  unfold groupVal at this
  rw [if_pos ⟨h, h0, h1⟩] at this
  exact this
theorem impl_HelpersOf.ev_l0 {g e m : Int} (h : GoodLocal g e m) (no : Int) (N : Nat) (hN : (N : Int) = g * e + g) : ∀ (n i : Nat), i + n = N →
    Ev (fun k => impl_HelpersOf.l0 k no (groupOf g e no) (helps g e no i) (g * e + g) (i : Int) g e m) (helps g e no N, true)
  | 0, i, hi => by
    refine Ev.step (fun k => impl_HelpersOf.l0.eq_2 _ _ _ _ _ _ _ _ k) ?_
    obtain rfl : i = N := by omega
    exact ev_neg (by omega) (ev_now rfl)
  | n + 1, i, hi => by
    have hm := small_mul h.1
    have hs : N ≤ 64 := by omega
    refine Ev.step (fun k => impl_HelpersOf.l0.eq_2 _ _ _ _ _ _ _ _ k) ?_
    have hl := helps_length g e no i
    have ih := impl_HelpersOf.ev_l0 h no N hN n (i + 1) (by omega)
    refine ev_pos (by omega) ?_
    refine ev_bind (impl_GroupOf.in_ h (by omega) (by omega)) ?_
    rw [inc (by omega)]
    by_cases c2 : groupOf g e i = groupOf g e no
    · refine ev_pos c2 ?_
      by_cases c1 : (i : Int) = no
      · refine ev_pos c1 ?_
        have : helps g e no (i + 1) = helps g e no i := by
          rw [helps, if_neg (fun z => z.1 c1), List.append_nil]
        rw [this] at ih
        exact ih
      · refine ev_neg c1 (ev_pos (by omega) ?_)
        have : helps g e no (i + 1) = helps g e no i ++ [(i : Int)] := by
          rw [helps, if_pos ⟨c1, c2⟩]
        rw [this] at ih
        exact ih
    · refine ev_neg c2 ?_
      have : helps g e no (i + 1) = helps g e no i := by
        rw [helps, if_neg (fun z => c2 z.2), List.append_nil]
      rw [this] at ih
      exact ih
theorem helps_more {g e m no : Int} (h : GoodLocal g e m) (h0 : 0 ≤ no) (h1 : no ≤ g * e + g - 1) (N : Nat) (hN : (N : Int) = g * e + g) : ∀ d, helps g e no (N + d) = helps g e no N
  | 0 => rfl
  | d + 1 => by
    show helps g e no (N + d + 1) = _
    have hp : ¬ groupOf g e no < 0 := fun z => (groupOf_neg h no).1 z ⟨h0, h1⟩
    have hq : groupOf g e ((N + d : Nat) : Int) < 0 := (groupOf_neg h _).2 (by omega)
    rw [helps, if_neg (fun z => by have := z.2; omega), List.append_nil, helps_more h h0 h1 N hN d]
theorem impl_HelpersOf.ev (g e m no : Int) : Ev (fun k => impl_HelpersOf.f k g e m no) (spec_HelpersOf.val g e m no) := by
  unfold impl_HelpersOf.f spec_HelpersOf.val
  have hG := impl_GroupOf.same g e m no
  unfold groupVal at hG
  by_cases h : GoodLocal g e m ∧ 0 ≤ no ∧ no ≤ g * e + g - 1
  · rw [if_pos h] at hG
    refine ev_eq ?_ (if_pos h).symm
    refine ev_bind hG (ev_pos rfl ?_)
    obtain ⟨hl, h0, h1⟩ := h
    have hm := small_mul hl.1
    have e1 : wrap64 (g * e + g) = g * e + g := by unfold wrap64; omega
    simp only [impl_Local_data.ev hl, Option.bind_some, e1]
    refine ev_eq (impl_HelpersOf.ev_l0 hl no (g * e + g).toNat (by omega) _ 0 (Nat.zero_add _)) ?_
    have e2 : (g * e + g + m).toNat = (g * e + g).toNat + m.toNat := by omega
    rw [e2, helps_more hl h0 h1 (g * e + g).toNat (by omega)]
  · rw [if_neg h] at hG
    refine ev_eq ?_ (if_neg h).symm
    exact ev_bind hG (ev_neg (by simp) (ev_now rfl))

theorem laws_eqIntS.ev_l0 (l : List Int) (hl : l.length < 4611686018427387904) : ∀ (n i : Nat), i + n = l.length → Ev (fun k => laws_eqIntS.l0 k l l (i : Int)) true
  | 0, i, hi => by
    refine Ev.step (fun k => laws_eqIntS.l0.eq_2 _ _ _ k) ?_
    exact ev_neg (by omega) (ev_now rfl)
  | n + 1, i, hi => by
    refine Ev.step (fun k => laws_eqIntS.l0.eq_2 _ _ _ k) ?_
    refine ev_pos (by omega) (ev_pos (by omega) (ev_pos (by omega) (ev_pos rfl ?_)))
    rw [inc (by omega)]
    exact laws_eqIntS.ev_l0 l hl n (i + 1) (by omega)
theorem laws_eqIntS.ev (l : List Int) (hl : l.length ≤ 281474976710656) : Ev (fun k => laws_eqIntS.f k l l) true := by
  unfold laws_eqIntS.f
  exact ev_pos rfl (laws_eqIntS.ev_l0 l (by omega) l.length 0 (by omega))

theorem laws_markIntS.ev_l0 (a : Int) (m : Nat) (ha : 0 ≤ a) (hm : a + m < 4611686018427387904) : ∀ (n i : Nat) (o : List Int), i + n = m → o.length = m → o.take i = (markI a m).take i →
    Ev (fun k => laws_markIntS.l0 k o (a + (i : Nat)) (i : Int)) (a + (m : Nat), markI a m)
  | 0, i, o, hi, ho, ht => by
    refine Ev.step (fun k => laws_markIntS.l0.eq_2 _ _ _ k) ?_
    refine ev_neg (by omega) (ev_now ?_)
    have hb := markI_length a m
    rw [List.take_of_length_le (by omega), List.take_of_length_le (by omega)] at ht
    subst ht
    have : i = m := by omega
    rw [this]
  | n + 1, i, o, hi, ho, ht => by
    refine Ev.step (fun k => laws_markIntS.l0.eq_2 _ _ _ k) ?_
    refine ev_pos (by omega) (ev_pos (by omega) ?_)
    have e : wrap64 (a + (i : Nat) + 1) = a + ((i + 1 : Nat) : Int) := by unfold wrap64; omega
    rw [inc (by omega), e, Int.toNat_natCast]
    refine laws_markIntS.ev_l0 a m ha hm n (i + 1) _ (by omega) (by simpa using ho) ?_
    have hb := markI_length a m
    rw [take_set_succ _ _ _ (by omega), ht, List.take_succ_eq_append_getElem (by omega), markI_get]
theorem laws_markIntS.ev (l : List Int) (a : Int) (ha : 0 ≤ a) (hm : a + l.length < 4611686018427387904) : Ev (fun k => laws_markIntS.f k l a) (a + (l.length : Nat), markI a l.length) := by
  unfold laws_markIntS.f
  have := laws_markIntS.ev_l0 a l.length ha hm l.length 0 l (by omega) rfl rfl
  simpa using this

theorem laws_heldIntS.ev_l0 (a : Int) (m : Nat) (ha : 0 ≤ a) (hm : a + m < 4611686018427387904) : ∀ (n i : Nat), i + n = m →
    Ev (fun k => laws_heldIntS.l0 k (markI a m) (a + (i : Nat)) (i : Int)) (a + (m : Nat))
  | 0, i, hi => by
    have hb := markI_length a m
    refine Ev.step (fun k => laws_heldIntS.l0.eq_2 _ _ _ k) ?_
    refine ev_neg (by omega) (ev_now ?_)
    have : i = m := by omega
    rw [this]
  | n + 1, i, hi => by
    have hb := markI_length a m
    refine Ev.step (fun k => laws_heldIntS.l0.eq_2 _ _ _ k) ?_
    refine ev_pos (by omega) (ev_pos (by omega) (ev_pos (by rw [rd_get (by omega), markI_get]) ?_))
    have e : wrap64 (a + (i : Nat) + 1) = a + ((i + 1 : Nat) : Int) := by unfold wrap64; omega
    rw [inc (by omega), e]
    exact laws_heldIntS.ev_l0 a m ha hm n (i + 1) (by omega)
theorem laws_heldIntS.ev (a : Int) (m : Nat) (ha : 0 ≤ a) (hm : a + m < 4611686018427387904) : Ev (fun k => laws_heldIntS.f k (markI a m) a) (a + (m : Nat)) := by
  unfold laws_heldIntS.f
  have := laws_heldIntS.ev_l0 a m ha hm m 0 (by omega)
  simpa using this

theorem spec_HelpersOf.val_len (g e m no : Int) : (spec_HelpersOf.val g e m no).1.length ≤ 64 := by
  unfold spec_HelpersOf.val
  split
  · rename_i h
    have hm := small_mul h.1.1
    have hl := helps_length g e no (g * e + g + m).toNat
    show (helps g e no (g * e + g + m).toNat).length ≤ 64
    omega
  · simp
theorem FnExactHelpersOf : ∀ (g e m no : Int), ((Lit.int .i64 g).wf = true ∧ (Lit.int .i64 e).wf = true ∧ (Lit.int .i64 m).wf = true) → (Lit.int .i64 no).wf = true → ∃ k, laws_FnExactHelpersOf.f k g e m no = some true := by
  intro g e m no _ _
  refine Ev.rounds ?_
  unfold laws_FnExactHelpersOf.f
  simp only [laws_toLocal.ev, Option.bind_some]
  have hs := spec_HelpersOf.ev g e m no
  have hi := impl_HelpersOf.ev g e m no
  have hz := spec_HelpersOf.val_len g e m no
  generalize spec_HelpersOf.val g e m no = rb at hs hi hz
  obtain ⟨r, b⟩ := rb
  replace hz : r.length ≤ 64 := hz
  repeat first
    | exact ev_now rfl
    | (simp only [laws_toLocal.ev, Option.bind_some])
    | refine ev_bind hs ?_
    | refine ev_bind hi ?_
    | refine ev_bind (laws_eqIntS.ev _ (by omega)) ?_
    | refine ev_bind (laws_markIntS.ev _ _ (by omega) (by omega)) ?_
    | refine ev_bind (laws_heldIntS.ev _ _ (by omega) (by omega)) ?_
    | refine Ev.step (fun k => laws_FnExactHelpersOf.j0.eq_2 _ _ _ _ _ _ _ _ k) ?_
    | refine Ev.step (fun k => laws_FnExactHelpersOf.j1.eq_2 _ _ _ k) ?_
    | refine ev_pos rfl ?_
    | (refine ev_neg ?hc ?_; (case hc => first | omega | (simp; done) | (simp; omega)))
    | (refine ev_pos ?hc ?_; (case hc => first | omega | (simp; done)))

end Go.Proofs.Ythadpdoefhldnaa.Pure
