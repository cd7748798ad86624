/- The given program's GroupOf returns what the reference's GroupOf returns, for all codes and numbers; there is no condition. -/
import Derived.Test.YtolpnmijbhbdjaaPFnExactGroupOfx2
import Derived.Test.YtolpnmijbhbdjaaKit
namespace Go.Proofs.Ytolpnmijbhbdjaa.Pure
open Go.RowKit Go.Proofs.Ytolpnmijbhbdjaa.PFnExactGroupOf Go.Proofs.YtolpnmijbhbdjaaW.PrintWords Go.Proofs.YtolpnmijbhbdjaaW.PrintLast Go.Proofs.Ytolpnmijbhbdjaa.Gf Go.Proofs.Ytolpnmijbhbdjaa.Kit
set_option linter.unusedVariables false
set_option linter.unusedSimpArgs false

theorem laws_toLocal.ev (g e m : Int) : laws_toLocal.f g e m = some (g, e, m) := rfl

theorem spec_l1In.ev (a b c : Int) : spec_l1In.f a b c = some (decide (b ≤ a ∧ a ≤ c)) := by
  unfold spec_l1In.f
  by_cases h : a ≥ b
  · rw [if_pos h]; simp [h]
  · rw [if_neg h]; simp; omega

theorem spec_GoodLocal.ev (g e m : Int) : spec_GoodLocal.f g e m = some (decide (GoodLocal g e m)) := by
  unfold spec_GoodLocal.f
  simp only [spec_l1In.ev, Option.bind_some, decide_eq_true_eq]
  by_cases h1 : 1 ≤ g ∧ g ≤ 4
  · by_cases h2 : 1 ≤ e ∧ e ≤ 4
    · have em := (small_mul ⟨h1, h2⟩).1
      rw [em]
      by_cases h3 : g * e ≤ 8 <;> simp [h1, h2, h3]
    · simp [h1, h2]
  · simp [h1]

theorem spec_l4Data.ev {g e m : Int} (h : GoodLocal g e m) : spec_l4Data.f g e m = some (g * e) := by
  unfold spec_l4Data.f
  rw [(small_mul h.1).1]

/-- The group of a shard, -1 for none. -/
def groupOf (g e no : Int) : Int := if 0 ≤ no ∧ no ≤ g * e - 1 then no / e else if g * e ≤ no ∧ no ≤ g * e + g - 1 then no - g * e else -1
theorem spec_l4Group.ev {g e m : Int} (h : GoodLocal g e m) (no : Int) : spec_l4Group.f g e m no = some (groupOf g e no) := by
  have hm := small_mul h.1
  obtain ⟨⟨⟨hg1, hg2⟩, he1, he2⟩, h8, _⟩ := h
  unfold spec_l4Group.f groupOf
  have e1 : wrap64 (g * e - 1) = g * e - 1 := by unfold wrap64; omega
  have e2 : wrap64 (wrap64 (g * e + g) - 1) = g * e + g - 1 := by unfold wrap64; omega
  simp only [spec_l4Data.f, hm.1, spec_l1In.ev, Option.bind_some, decide_eq_true_eq, e1, e2]
  by_cases c1 : 0 ≤ no ∧ no ≤ g * e - 1
  · rw [if_pos c1, if_pos c1, if_neg (by omega), Int.tdiv_eq_ediv_of_nonneg c1.1]
    have q1 : 0 ≤ no / e := Int.ediv_nonneg c1.1 (by omega)
    have q2 : no / e ≤ no := Int.ediv_le_self _ c1.1
    rw [wrap_id q1 (by omega)]
  · rw [if_neg c1, if_neg c1]
    by_cases c2 : g * e ≤ no ∧ no ≤ g * e + g - 1
    · rw [if_pos c2, if_pos c2, wrap_id (by omega) (by omega)]
    · rw [if_neg c2, if_neg c2]
theorem groupOf_neg {g e m : Int} (h : GoodLocal g e m) (no : Int) : groupOf g e no < 0 ↔ ¬ (0 ≤ no ∧ no ≤ g * e + g - 1) := by
  have hm := small_mul h.1
  obtain ⟨⟨⟨hg1, hg2⟩, he1, he2⟩, h8, _⟩ := h
  unfold groupOf
  split
  · rename_i c
    have : 0 ≤ no / e := Int.ediv_nonneg c.1 (by omega)
    omega
  · split <;> omega

def spec_GroupOf.val (g e m no : Int) : Int × Bool := if GoodLocal g e m ∧ 0 ≤ no ∧ no ≤ g * e + g - 1 then (groupOf g e no, true) else (0, false)
theorem spec_GroupOf.ev (g e m no : Int) : spec_GroupOf.f g e m no = some (spec_GroupOf.val g e m no) := by
  unfold spec_GroupOf.f spec_GroupOf.val
  simp only [spec_GoodLocal.ev, Option.bind_some, decide_eq_true_eq]
  by_cases h : GoodLocal g e m
  · have hn := groupOf_neg h no
    simp only [if_pos h, spec_l4Group.ev h, Option.bind_some]
    by_cases c : groupOf g e no < 0
    · rw [if_pos c, if_neg (fun z => (hn.1 c) z.2)]
    · rw [if_neg c, if_pos ⟨h, Decidable.of_not_not (fun z => c (hn.2 z))⟩]
  · rw [if_neg h, if_neg (fun z => h z.1)]

theorem impl_within.ev (a b c : Int) : impl_within.f a b c = some (decide (b ≤ a ∧ a ≤ c)) := by
  unfold impl_within.f
  by_cases h : a ≥ b
  · rw [if_pos h]; simp [h]
  · rw [if_neg h]; simp; omega

theorem impl_GoodLocal.ev (g e m : Int) : impl_GoodLocal.f g e m = some (decide (GoodLocal g e m)) := by
  unfold impl_GoodLocal.f
  simp only [impl_within.ev, Option.bind_some, decide_eq_true_eq]
  by_cases h1 : 1 ≤ g ∧ g ≤ 4
  · by_cases h2 : 1 ≤ e ∧ e ≤ 4
    · have em := (small_mul ⟨h1, h2⟩).1
      rw [em]
      by_cases h3 : g * e ≤ 8 <;> simp [h1, h2, h3]
    · simp [h1, h2]
  · simp [h1]

theorem impl_Local_data.ev {g e m : Int} (h : GoodLocal g e m) : impl_Local_data.f g e m = some (g * e) := by
  unfold impl_Local_data.f
  rw [(small_mul h.1).1]

theorem impl_GroupOf.ev (g e m no : Int) : Ev (fun k => impl_GroupOf.f k g e m no) (if GoodLocal g e m ∧ 0 ≤ no ∧ no ≤ g * e + g - 1 then ((if no < g * e then no / e else no - g * e), true) else (0, false)) := by
  unfold impl_GroupOf.f
  simp only [impl_GoodLocal.ev, Option.bind_some, decide_eq_true_eq]
  by_cases h : GoodLocal g e m
  · have hm := small_mul h.1
    have h' := h
    obtain ⟨⟨⟨hg1, hg2⟩, he1, he2⟩, h8, _⟩ := h'
    have e2 : wrap64 (wrap64 (g * e + g) - 1) = g * e + g - 1 := by unfold wrap64; omega
    simp only [if_pos h, impl_Local_data.ev h, impl_within.ev, Option.bind_some, e2]
    refine Ev.step (fun k => impl_GroupOf.j0.eq_2 _ _ _ _ _ k) ?_
    by_cases c : 0 ≤ no ∧ no ≤ g * e + g - 1
    · refine ev_eq ?_ (if_pos ⟨h, c⟩).symm
      refine ev_neg (by simp [c]) ?_
      simp only [impl_Local_data.ev h, Option.bind_some]
      by_cases d : no < g * e
      · refine ev_pos d (ev_neg (by omega) (ev_now ?_))
        have q1 : 0 ≤ no / e := Int.ediv_nonneg c.1 (by omega)
        have q2 : no / e ≤ no := Int.ediv_le_self _ c.1
        rw [if_pos d, Int.tdiv_eq_ediv_of_nonneg c.1, wrap_id q1 (by omega)]
      · refine ev_neg d (ev_now ?_)
        rw [if_neg d, wrap_id (by omega) (by omega)]
    · refine ev_eq ?_ (if_neg (fun z => c z.2)).symm
      exact ev_pos (by simp [c]) (ev_now rfl)
  · simp only [if_neg h]
    refine ev_eq ?_ (if_neg (fun z => h z.1)).symm
    refine Ev.step (fun k => impl_GroupOf.j0.eq_2 _ _ _ _ _ k) ?_
    exact ev_pos rfl (ev_now rfl)
theorem impl_GroupOf.same (g e m no : Int) : Ev (fun k => impl_GroupOf.f k g e m no) (spec_GroupOf.val g e m no) := by
  refine ev_eq (impl_GroupOf.ev g e m no) ?_
  unfold spec_GroupOf.val groupOf
  by_cases h : GoodLocal g e m ∧ 0 ≤ no ∧ no ≤ g * e + g - 1
  · rw [if_pos h, if_pos h]
    by_cases d : no < g * e
    · rw [if_pos d, if_pos ⟨h.2.1, by omega⟩]
    · rw [if_neg d, if_neg (by omega), if_pos ⟨by omega, h.2.2⟩]
  · rw [if_neg h, if_neg h]

theorem FnExactGroupOf : ∀ (g e m no : Int), ((Lit.int .i64 g).wf = true ∧ (Lit.int .i64 e).wf = true ∧ (Lit.int .i64 m).wf = true) → (Lit.int .i64 no).wf = true → ∃ k, laws_FnExactGroupOf.f k g e m no = some true := by
  intro g e m no _ _
  refine Ev.rounds ?_
  unfold laws_FnExactGroupOf.f
  simp only [laws_toLocal.ev, spec_GroupOf.ev, Option.bind_some]
  exact ev_bind (impl_GroupOf.same g e m no) (ev_pos rfl (ev_neg (by simp) (ev_now rfl)))

end Go.Proofs.Ytolpnmijbhbdjaa.Pure
