/- The given program's GoodMsr returns what the reference's GoodMsr returns, for all codes; there is no condition. -/
import Derived.Test.YtolpnmijbhbdjaaPFnExactGoodMsrx1
import Derived.Test.YtolpnmijbhbdjaaKit
namespace Go.Proofs.Ytolpnmijbhbdjaa.Pure
open Go.RowKit Go.Proofs.Ytolpnmijbhbdjaa.PFnExactGoodMsr Go.Proofs.YtolpnmijbhbdjaaW.PrintWords Go.Proofs.YtolpnmijbhbdjaaW.PrintLast Go.Proofs.Ytolpnmijbhbdjaa.Gf Go.Proofs.Ytolpnmijbhbdjaa.Kit
set_option linter.unusedVariables false
set_option linter.unusedSimpArgs false

theorem spec_l1In.ev (a b c : Int) : spec_l1In.f a b c = some (decide (b ≤ a ∧ a ≤ c)) := by
  unfold spec_l1In.f
  by_cases h : a ≥ b
  · rw [if_pos h]; simp [h]
  · rw [if_neg h]; simp; omega

theorem spec_GoodMsr.ev (n k : Int) : spec_GoodMsr.f n k = some (decide (GoodMsr n k)) := by
  unfold spec_GoodMsr.f
  simp only [spec_l1In.ev, Option.bind_some, decide_eq_true_eq]
  by_cases h : 2 ≤ k ∧ k ≤ 4
  · have e : wrap64 (wrap64 (2 * k) - 1) = 2 * k - 1 := by unfold wrap64; omega
    simp [h, e]
  · simp [h]

theorem laws_toMsr.ev (n k : Int) : laws_toMsr.f n k = some (n, k) := rfl

theorem impl_within.ev (a b c : Int) : impl_within.f a b c = some (decide (b ≤ a ∧ a ≤ c)) := by
  unfold impl_within.f
  by_cases h : a ≥ b
  · rw [if_pos h]; simp [h]
  · rw [if_neg h]; simp; omega

theorem impl_GoodMsr.ev (n k : Int) : impl_GoodMsr.f n k = some (decide (GoodMsr n k)) := by
  unfold impl_GoodMsr.f
  simp only [impl_within.ev, Option.bind_some, decide_eq_true_eq]
  by_cases h : 2 ≤ k ∧ k ≤ 4
  · have e : wrap64 (wrap64 (2 * k) - 1) = 2 * k - 1 := by unfold wrap64; omega
    simp [h, e]
  · simp [h]

theorem FnExactGoodMsr : ∀ (n k : Int), ((Lit.int .i64 n).wf = true ∧ (Lit.int .i64 k).wf = true) → laws_FnExactGoodMsr.f n k = some true := by
  intro n k _
  unfold laws_FnExactGoodMsr.f
  simp only [laws_toMsr.ev, spec_GoodMsr.ev, impl_GoodMsr.ev, Option.bind_some, bne_self_eq_false]
  simp

end Go.Proofs.Ytolpnmijbhbdjaa.Pure
