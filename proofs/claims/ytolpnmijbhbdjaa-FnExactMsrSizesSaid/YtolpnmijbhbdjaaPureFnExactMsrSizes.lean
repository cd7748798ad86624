/- The given program's MsrSizes returns what the reference's MsrSizes returns, for all codes; there is no condition. -/
import Derived.Test.YtolpnmijbhbdjaaPFnExactMsrSizesx1
import Derived.Test.YtolpnmijbhbdjaaKit
namespace Go.Proofs.Ytolpnmijbhbdjaa.Pure
open Go.RowKit Go.Proofs.Ytolpnmijbhbdjaa.PFnExactMsrSizes Go.Proofs.YtolpnmijbhbdjaaW.PrintWords Go.Proofs.YtolpnmijbhbdjaaW.PrintLast Go.Proofs.Ytolpnmijbhbdjaa.Gf Go.Proofs.Ytolpnmijbhbdjaa.Kit
set_option linter.unusedVariables false
set_option linter.unusedSimpArgs false

theorem laws_toMsr.ev (n k : Int) : laws_toMsr.f n k = some (n, k) := rfl

theorem spec_l1In.ev (a b c : Int) : spec_l1In.f a b c = some (decide (b ≤ a ∧ a ≤ c)) := by
  unfold spec_l1In.f
  by_cases h : a ≥ b
  · rw [if_pos h]; simp [h]
  · rw [if_neg h]; simp; omega

theorem spec_GoodMsr.ev (n k : Int) : spec_GoodMsr.f n k = some (decide (GoodMsr n k)) := by
  unfold spec_GoodMsr.f
  simp only [spec_l1In.ev, Option.bind_some, decide_eq_true_eq]
  by_cases h : 2 ≤ k ∧ k ≤ 4
  · have e : wrap64 (wrap64 (2 * k) - 1) = 2 * k - 1 := by unfold wrap64; omega
    simp [h, e]
  · simp [h]

def spec_MsrSizes.val (n k : Int) : Int × Int × Int × Bool := if GoodMsr n k then (k - 1, 2 * (k - 1), k * (k - 1), true) else (0, 0, 0, false)
theorem spec_MsrSizes.ev (n k : Int) : spec_MsrSizes.f n k = some (spec_MsrSizes.val n k) := by
  unfold spec_MsrSizes.f spec_MsrSizes.val
  simp only [spec_GoodMsr.ev, Option.bind_some, decide_eq_true_eq]
  by_cases h : GoodMsr n k
  · have e1 : wrap64 (k - 1) = k - 1 := by unfold wrap64; omega
    have e2 : wrap64 (2 * (k - 1)) = 2 * (k - 1) := by unfold wrap64; omega
    have e3 : wrap64 (k * (k - 1)) = k * (k - 1) := by
      have : k = 2 ∨ k = 3 ∨ k = 4 := by omega
      rcases this with rfl | rfl | rfl <;> (unfold wrap64; omega)
    rw [if_pos h, if_pos h, e1, e2, e3]
  · rw [if_neg h, if_neg h]

theorem impl_within.ev (a b c : Int) : impl_within.f a b c = some (decide (b ≤ a ∧ a ≤ c)) := by
  unfold impl_within.f
  by_cases h : a ≥ b
  · rw [if_pos h]; simp [h]
  · rw [if_neg h]; simp; omega

theorem impl_GoodMsr.ev (n k : Int) : impl_GoodMsr.f n k = some (decide (GoodMsr n k)) := by
  unfold impl_GoodMsr.f
  simp only [impl_within.ev, Option.bind_some, decide_eq_true_eq]
  by_cases h : 2 ≤ k ∧ k ≤ 4
  · have e : wrap64 (wrap64 (2 * k) - 1) = 2 * k - 1 := by unfold wrap64; omega
    simp [h, e]
  · simp [h]

theorem impl_Msr_alpha.ev {n k : Int} (h : GoodMsr n k) : impl_Msr_alpha.f n k = some (k - 1) := by
  unfold impl_Msr_alpha.f
  have e : wrap64 (k - 1) = k - 1 := by unfold wrap64; omega
  rw [e]

theorem msr_size {n k : Int} (h : GoodMsr n k) : wrap64 (k * (k - 1)) = k * (k - 1) := by
  have : k = 2 ∨ k = 3 ∨ k = 4 := by omega
  rcases this with rfl | rfl | rfl <;> (unfold wrap64; omega)
theorem impl_Msr_size.ev {n k : Int} (h : GoodMsr n k) : impl_Msr_size.f n k = some (k * (k - 1)) := by
  unfold impl_Msr_size.f
  simp only [impl_Msr_alpha.ev h, Option.bind_some, msr_size h]

theorem impl_MsrSizes.ev (n k : Int) : impl_MsrSizes.f n k = some (spec_MsrSizes.val n k) := by
  unfold impl_MsrSizes.f spec_MsrSizes.val
  simp only [impl_GoodMsr.ev, Option.bind_some, decide_eq_true_eq]
  by_cases h : GoodMsr n k
  · have e2 : wrap64 (2 * (k - 1)) = 2 * (k - 1) := by unfold wrap64; omega
    rw [if_pos h, if_pos h]
    simp only [impl_Msr_alpha.ev h, impl_Msr_size.ev h, Option.bind_some, e2]
  · rw [if_neg h, if_neg h]

theorem FnExactMsrSizes : ∀ (n k : Int), ((Lit.int .i64 n).wf = true ∧ (Lit.int .i64 k).wf = true) → laws_FnExactMsrSizes.f n k = some true := by
  intro n k _
  unfold laws_FnExactMsrSizes.f
  simp only [laws_toMsr.ev, spec_MsrSizes.ev, impl_MsrSizes.ev, Option.bind_some, bne_self_eq_false]
  simp

end Go.Proofs.Ytolpnmijbhbdjaa.Pure
