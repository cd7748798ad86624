-- The row of the law FnExactProduct, out of its pure statement and its contract.
import Derived.Test.YtlmcobjpmonkfaaRows
import Derived.Test.YtlmcobjpmonkfaaWalkFnExactProduct
import Derived.Test.YtlmcobjpmonkfaaPureFnExactProduct
import Derived.Test.YtlmcobjpmonkfaaLift
import Derived.WalkKit
import Derived.ProofKit
import Derived.OpenShut
import Derived.ShutString
import Derived.ChangeOld
import Derived.Below
import Derived.SizedLaws
import Derived.Carry
namespace Go.Proofs.Ytlmcobjpmonkfaa.fnExactProduct
open Go.ChangeShapes Go.WideShapes Go.ChangeAt Go.RowKit Go.Proofs.Ytlmcobjpmonkfaa.Lift Go.Proofs.YtlmcobjpmonkfaaW.PrintWords Go.Proofs.Ytlmcobjpmonkfaa.PFnExactProduct
open Go.ChangeMaps (open_string shut_string)
set_option linter.unusedVariables false
set_option linter.unusedSimpArgs false
theorem own : ownKnob Try.prog.godebug = none := by kernel_rfl
theorem laidOut : laidOutB Try.prog = true := by kernel_rfl
set_option maxRecDepth 100000 in
theorem lifted (os : Os) (started : os.Started) (H : Type) (enc : TypeId × Value → H) :
    ReturnsInHanded {} Try.checked os 6 .any (Rows.fnExactProductSpec.pre6 enc Try.prog Try.f6 Rows.fnExactProductRow.domain false) (Rows.fnExactProductSpec.post enc Try.prog Try.f6 false true false false) := by
  refine returnsInHanded_of_change_sized (C := Try.checked) own started (by kernel_rfl) Try.func6
    (ChangeSpec.witness6 (enc := enc) (C := Try.checked) false ⟨#[], #[.agg #[.slice none 0 0], .agg #[.slice none 0 0]], []⟩ 8 (by kernel_rfl) (by kernel_rfl) (by kernel_rfl) (by kernel_rfl)) ?_
  intro W base args ds gs before hval0 hW hcnd hsz0 _
  have hval : ∀ (j : Nat) t v, Try.f6.params[j]? = some t → args[j]? = some v → Value.okWide Try.prog W .any base t v := hval0
  have hW' := hW
  obtain ⟨p, q, hA0, hV, rfl, hfz, hnd⟩ := hW
  have hA : DataW.TrodAll enc Try.prog W 0 (fun _ => true) true Try.f6.params.toList args.toList ds p := hA0
  rw [Try.params6] at hA hval
  obtain ⟨v0, vs0, d0, ds0, p0, q0, hargs, rfl, rfl, h0, r0⟩ := trodAll_cons hA
  obtain ⟨v1, vs1, d1, ds1, p1, q1, rfl, rfl, rfl, h1, r1⟩ := trodAll_cons r0
  obtain ⟨rfl, rfl, rfl⟩ := trodAll_nil r1
  obtain rfl : args = #[v0, v1] := by cases args; simp_all
  obtain ⟨rfl, rfl⟩ := trodVars_none hV
  have k0 := h0
  have lt0 : ∀ x ∈ p0, x.block < W.heap.size := by obtain ⟨m, hm⟩ := k0; exact DataW.trod_lt m _ _ _ hm
  obtain ⟨y0, ky0, wy0⟩ := Opens.id (Opens.struct1 Try.underlying51 (Opens.slice Try.underlying39 (Opens.slice Try.underlying76 (Opens.int Try.underlying5) (by kernel_rfl)) (by kernel_rfl)) rfl (by kernel_rfl) (fun x => x) (fun x => x) (fun _ => rfl)) h0
  obtain ⟨cs0, rfl, _⟩ := okWide_struct Try.underlying51 (hval 0 51 v0 rfl rfl)
  obtain ⟨A0_0, c0_0, e0, hc0_0, hr0_0⟩ := ky0
  have hv0 : Value.agg cs0 = .agg #[.slice A0_0 y0.length c0_0] := agg_of e0
  rw [hv0] at hW' k0 ⊢
  have k1 := h1
  have lt1 : ∀ x ∈ p1, x.block < W.heap.size := by obtain ⟨m, hm⟩ := k1; exact DataW.trod_lt m _ _ _ hm
  obtain ⟨y1, ky1, wy1⟩ := Opens.id (Opens.struct1 Try.underlying51 (Opens.slice Try.underlying39 (Opens.slice Try.underlying76 (Opens.int Try.underlying5) (by kernel_rfl)) (by kernel_rfl)) rfl (by kernel_rfl) (fun x => x) (fun x => x) (fun _ => rfl)) h1
  obtain ⟨cs1, rfl, _⟩ := okWide_struct Try.underlying51 (hval 1 51 v1 rfl rfl)
  obtain ⟨A1_0, c1_0, e1, hc1_0, hr1_0⟩ := ky1
  have hv1 : Value.agg cs1 = .agg #[.slice A1_0 y1.length c1_0] := agg_of e1
  rw [hv1] at hW' k1 ⊢
  clear hA0 hval0 hsz0
  have h := Pure.FnExactProduct y0 y1 wy0 wy1
  refine (laws_FnExactProduct.calls _ _ y0 _ _ y1 W hr0_0 hc0_0 hr1_0 hc1_0 h).mono fun e W' ⟨he, bel0⟩ => ?_
  have bel : Below W.heap.size W W' := bel0
  subst he
  exact ⟨_, rfl, _, _, _, [], _, [], hW', trodAll_mk1 (shut_bool Try.underlying4 _), (trodAll_cons_mk (Below.trod laidOut (by kernel_rfl) (of_decide_eq_true (by kernel_rfl)) k0 bel lt0) (trodAll_cons_mk (Below.trod laidOut (by kernel_rfl) (of_decide_eq_true (by kernel_rfl)) k1 bel lt1) trodAll_mk0)), rfl, bel.frame _, fun h => by cases h⟩
theorem over : Rows.fnExactProductRow.holds Try.pinned (OpenSpec.ofChange Rows.fnExactProductSpec) :=
  OpenClaim.holds_of_wide 6 Try.f6 rfl rfl rfl rfl rfl rfl rfl ⟨rfl, rfl, rfl, rfl, rfl⟩ rfl rfl rfl rfl rfl (by kernel_rfl) Try.func6 (by kernel_rfl)
    (of_decide_eq_true (by kernel_rfl)) (by unfold Func.isWrapper; first | (rw [if_pos (by decide +kernel)]; kernel_rfl) | (rw [if_neg (by decide +kernel)]; exact ⟨rfl, rfl⟩))
    (fun os started H enc _ => lifted os started H enc)
theorem proved : Rows.FnExactProductSaid := over
end Go.Proofs.Ytlmcobjpmonkfaa.fnExactProduct
namespace Go.Proofs.Ytlmcobjpmonkfaa
/-- The row, under a short name, for the claim. -/
theorem fnExactProduct_holds : Rows.FnExactProductSaid := fnExactProduct.proved
end Go.Proofs.Ytlmcobjpmonkfaa
