/- The given program's GoodShape returns what the reference's GoodShape returns, for all pairs of numbers; there is no condition. -/
import Derived.Test.YtolpnmijbhbdjaaPFnExactGoodShapex1
import Derived.Test.YtolpnmijbhbdjaaKit
namespace Go.Proofs.Ytolpnmijbhbdjaa.Pure
open Go.RowKit Go.Proofs.Ytolpnmijbhbdjaa.PFnExactGoodShape Go.Proofs.YtolpnmijbhbdjaaW.PrintWords Go.Proofs.YtolpnmijbhbdjaaW.PrintLast Go.Proofs.Ytolpnmijbhbdjaa.Gf Go.Proofs.Ytolpnmijbhbdjaa.Kit
set_option linter.unusedVariables false
set_option linter.unusedSimpArgs false

theorem spec_l1In.ev (a b c : Int) : spec_l1In.f a b c = some (decide (b ≤ a ∧ a ≤ c)) := by
  unfold spec_l1In.f
  by_cases h : a ≥ b
  · rw [if_pos h]; simp [h]
  · rw [if_neg h]; simp; omega

theorem spec_GoodShape.ev (k m : Int) : spec_GoodShape.f k m = some (decide ((1 ≤ k ∧ k ≤ 8) ∧ 1 ≤ m ∧ m ≤ 6)) := by
  unfold spec_GoodShape.f
  simp only [spec_l1In.ev, Option.bind_some, decide_eq_true_eq]
  by_cases h : 1 ≤ k ∧ k ≤ 8 <;> simp [h]

theorem impl_within.ev (a b c : Int) : impl_within.f a b c = some (decide (b ≤ a ∧ a ≤ c)) := by
  unfold impl_within.f
  by_cases h : a ≥ b
  · rw [if_pos h]; simp [h]
  · rw [if_neg h]; simp; omega

theorem impl_GoodShape.ev (k m : Int) : impl_GoodShape.f k m = some (decide ((1 ≤ k ∧ k ≤ 8) ∧ 1 ≤ m ∧ m ≤ 6)) := by
  unfold impl_GoodShape.f
  simp only [impl_within.ev, Option.bind_some, decide_eq_true_eq]
  by_cases h : 1 ≤ k ∧ k ≤ 8 <;> simp [h]

theorem FnExactGoodShape : laws_FnExactGoodShape.Pure := by
  intro k m _ _
  unfold laws_FnExactGoodShape.f
  simp only [spec_GoodShape.ev, impl_GoodShape.ev, Option.bind_some]
  simp

end Go.Proofs.Ytolpnmijbhbdjaa.Pure
