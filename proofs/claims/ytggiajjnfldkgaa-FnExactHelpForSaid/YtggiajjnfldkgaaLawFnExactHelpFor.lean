-- The row of the law FnExactHelpFor, out of its pure statement and its contract.
import Derived.Test.YtggiajjnfldkgaaRows
import Derived.Test.YtggiajjnfldkgaaPFnExactHelpForx5
import Derived.Test.YtggiajjnfldkgaaPureFnExactHelpFor
import Derived.Test.YtggiajjnfldkgaaLift
import Derived.WalkKit
import Derived.ProofKit
import Derived.OpenShut
import Derived.ShutString
import Derived.ChangeOld
import Derived.Below
import Derived.SizedLaws
import Derived.Carry
namespace Go.Proofs.Ytggiajjnfldkgaa.fnExactHelpFor
open Go.ChangeShapes Go.WideShapes Go.ChangeAt Go.RowKit Go.Proofs.Ytggiajjnfldkgaa.Lift Go.Proofs.YtggiajjnfldkgaaW.PrintWords Go.Proofs.Ytggiajjnfldkgaa.PFnExactHelpFor
open Go.ChangeMaps (open_string shut_string)
set_option linter.unusedVariables false
set_option linter.unusedSimpArgs false
theorem own : ownKnob Try.prog.godebug = none := by kernel_rfl
theorem laidOut : laidOutB Try.prog = true := by kernel_rfl
set_option maxRecDepth 100000 in
theorem lifted (os : Os) (started : os.Started) (H : Type) (enc : TypeId × Value → H) :
    ReturnsInHanded {} Try.checked os 6 .any (Rows.fnExactHelpForSpec.pre6 enc Try.prog Try.f6 Rows.fnExactHelpForRow.domain false) (Rows.fnExactHelpForSpec.post enc Try.prog Try.f6 false true false false) := by
  refine returnsInHanded_of_change_sized (C := Try.checked) own started (by kernel_rfl) Try.func6
    (ChangeSpec.witness6 (enc := enc) (C := Try.checked) false ⟨#[], #[.agg #[.int .i64 0, .int .i64 0], .agg #[.int .i64 0, .slice none 0 0], .int .i64 0], []⟩ 8 (by kernel_rfl) (by kernel_rfl) (by kernel_rfl) (by kernel_rfl)) ?_
  intro W base args ds gs before hval0 hW hcnd hsz0 _
  have hval : ∀ (j : Nat) t v, Try.f6.params[j]? = some t → args[j]? = some v → Value.okWide Try.prog W .any base t v := hval0
  have hW' := hW
  obtain ⟨p, q, hA0, hV, rfl, hfz, hnd⟩ := hW
  have hA : DataW.TrodAll enc Try.prog W 0 (fun _ => true) true Try.f6.params.toList args.toList ds p := hA0
  rw [Try.params6] at hA hval
  obtain ⟨v0, vs0, d0, ds0, p0, q0, hargs, rfl, rfl, h0, r0⟩ := trodAll_cons hA
  obtain ⟨v1, vs1, d1, ds1, p1, q1, rfl, rfl, rfl, h1, r1⟩ := trodAll_cons r0
  obtain ⟨v2, vs2, d2, ds2, p2, q2, rfl, rfl, rfl, h2, r2⟩ := trodAll_cons r1
  obtain ⟨rfl, rfl, rfl⟩ := trodAll_nil r2
  obtain rfl : args = #[v0, v1, v2] := by cases args; simp_all
  obtain ⟨rfl, rfl⟩ := trodVars_none hV
  have k0 := h0
  have lt0 : ∀ x ∈ p0, x.block < W.heap.size := by obtain ⟨m, hm⟩ := k0; exact DataW.trod_lt m _ _ _ hm
  obtain ⟨y0, ky0, wy0⟩ := Opens.id (Opens.struct2 Try.underlying31 (Opens.int Try.underlying3) (Opens.int Try.underlying3) rfl (by kernel_rfl) (by kernel_rfl) (fun x => x) (fun x => x) (fun _ => rfl)) h0
  obtain ⟨cs0, rfl, _⟩ := okWide_struct Try.underlying31 (hval 0 31 v0 rfl rfl)
  obtain ⟨_, _, e0, rfl, rfl⟩ := ky0
  have hv0 : Value.agg cs0 = .agg #[.int .i64 y0.1, .int .i64 y0.2] := agg_of e0
  rw [hv0] at hW' k0 ⊢
  have k1 := h1
  have lt1 : ∀ x ∈ p1, x.block < W.heap.size := by obtain ⟨m, hm⟩ := k1; exact DataW.trod_lt m _ _ _ hm
  obtain ⟨y1, ky1, wy1⟩ := Opens.id (Opens.struct2 Try.underlying41 (Opens.int Try.underlying3) (Opens.slice Try.underlying32 (Opens.int Try.underlying5) (by kernel_rfl)) rfl (by kernel_rfl) (by kernel_rfl) (fun x => x) (fun x => x) (fun _ => rfl)) h1
  obtain ⟨cs1, rfl, _⟩ := okWide_struct Try.underlying41 (hval 1 41 v1 rfl rfl)
  obtain ⟨_, _, e1, rfl, ⟨A1_1, c1_1, rfl, hc1_1, hr1_1⟩⟩ := ky1
  have hv1 : Value.agg cs1 = .agg #[.int .i64 y1.1, .slice A1_1 y1.2.length c1_1] := agg_of e1
  rw [hv1] at hW' k1 ⊢
  obtain ⟨a2, rfl, rfl, rfl, w2⟩ := open_int Try.underlying3 (hval 2 3 v2 rfl rfl) h2
  clear hA0 hval0 hsz0
  obtain ⟨k, h⟩ := Pure.FnExactHelpFor y0.1 y0.2 y1.1 y1.2 a2 wy0 wy1 w2
  refine (laws_FnExactHelpFor.calls k y0.1 y0.2 y1.1 _ _ y1.2 a2 true W hr1_1 hc1_1 h).mono fun e W' ⟨he, bel0⟩ => ?_
  have bel : Below W.heap.size W W' := bel0
  subst he
  exact ⟨_, rfl, _, _, _, [], _, [], hW', trodAll_mk1 (shut_bool Try.underlying4 _), (trodAll_cons_mk (Below.trod laidOut (by kernel_rfl) (of_decide_eq_true (by kernel_rfl)) k0 bel lt0) (trodAll_cons_mk (Below.trod laidOut (by kernel_rfl) (of_decide_eq_true (by kernel_rfl)) k1 bel lt1) (trodAll_cons_mk (shut_int Try.underlying3 w2) trodAll_mk0))), rfl, bel.frame _, fun h => by cases h⟩
theorem over : Rows.fnExactHelpForRow.holds Try.pinned (OpenSpec.ofChange Rows.fnExactHelpForSpec) :=
  OpenClaim.holds_of_wide 6 Try.f6 rfl rfl rfl rfl rfl rfl rfl ⟨rfl, rfl, rfl, rfl, rfl⟩ rfl rfl rfl rfl rfl (by kernel_rfl) Try.func6 (by kernel_rfl)
    (of_decide_eq_true (by kernel_rfl)) (by unfold Func.isWrapper; first | (rw [if_pos (by decide +kernel)]; kernel_rfl) | (rw [if_neg (by decide +kernel)]; exact ⟨rfl, rfl⟩))
    (fun os started H enc _ => lifted os started H enc)
theorem proved : Rows.FnExactHelpForSaid := over
end Go.Proofs.Ytggiajjnfldkgaa.fnExactHelpFor
namespace Go.Proofs.Ytggiajjnfldkgaa
/-- The row, under a short name, for the claim. -/
theorem fnExactHelpFor_holds : Rows.FnExactHelpForSaid := fnExactHelpFor.proved
end Go.Proofs.Ytggiajjnfldkgaa
