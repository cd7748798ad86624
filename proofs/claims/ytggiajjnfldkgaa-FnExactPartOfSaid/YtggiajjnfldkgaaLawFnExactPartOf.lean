-- The row of the law FnExactPartOf, out of its pure statement and its contract.
import Derived.Test.YtggiajjnfldkgaaRows
import Derived.Test.YtggiajjnfldkgaaWalkFnExactPartOf
import Derived.Test.YtggiajjnfldkgaaPureFnExactPartOf
import Derived.Test.YtggiajjnfldkgaaLift
import Derived.WalkKit
import Derived.ProofKit
import Derived.OpenShut
import Derived.ShutString
import Derived.ChangeOld
import Derived.Below
import Derived.SizedLaws
import Derived.Carry
namespace Go.Proofs.Ytggiajjnfldkgaa.fnExactPartOf
open Go.ChangeShapes Go.WideShapes Go.ChangeAt Go.RowKit Go.Proofs.Ytggiajjnfldkgaa.Lift Go.Proofs.YtggiajjnfldkgaaW.PrintWords Go.Proofs.Ytggiajjnfldkgaa.PFnExactPartOf
open Go.ChangeMaps (open_string shut_string)
set_option linter.unusedVariables false
set_option linter.unusedSimpArgs false
theorem own : ownKnob Try.prog.godebug = none := by kernel_rfl
theorem laidOut : laidOutB Try.prog = true := by kernel_rfl
set_option maxRecDepth 100000 in
theorem lifted (os : Os) (started : os.Started) (H : Type) (enc : TypeId × Value → H) :
    ReturnsInHanded {} Try.checked os 14 .any (Rows.fnExactPartOfSpec.pre6 enc Try.prog Try.f14 Rows.fnExactPartOfRow.domain false) (Rows.fnExactPartOfSpec.post enc Try.prog Try.f14 false true false false) := by
  refine returnsInHanded_of_change_sized (C := Try.checked) own started (by kernel_rfl) Try.func14
    (ChangeSpec.witness6 (enc := enc) (C := Try.checked) false ⟨#[], #[.agg #[.slice none 0 0], .slice none 0 0, .slice none 0 0], []⟩ 8 (by kernel_rfl) (by kernel_rfl) (by kernel_rfl) (by kernel_rfl)) ?_
  intro W base args ds gs before hval0 hW hcnd hsz0 _
  have hval : ∀ (j : Nat) t v, Try.f14.params[j]? = some t → args[j]? = some v → Value.okWide Try.prog W .any base t v := hval0
  have hW' := hW
  obtain ⟨p, q, hA0, hV, rfl, hfz, hnd⟩ := hW
  have hA : DataW.TrodAll enc Try.prog W 0 (fun _ => true) true Try.f14.params.toList args.toList ds p := hA0
  rw [Try.params14] at hA hval
  obtain ⟨v0, vs0, d0, ds0, p0, q0, hargs, rfl, rfl, h0, r0⟩ := trodAll_cons hA
  obtain ⟨v1, vs1, d1, ds1, p1, q1, rfl, rfl, rfl, h1, r1⟩ := trodAll_cons r0
  obtain ⟨v2, vs2, d2, ds2, p2, q2, rfl, rfl, rfl, h2, r2⟩ := trodAll_cons r1
  obtain ⟨rfl, rfl, rfl⟩ := trodAll_nil r2
  obtain rfl : args = #[v0, v1, v2] := by cases args; simp_all
  obtain ⟨rfl, rfl⟩ := trodVars_none hV
  have k0 := h0
  have lt0 : ∀ x ∈ p0, x.block < W.heap.size := by obtain ⟨m, hm⟩ := k0; exact DataW.trod_lt m _ _ _ hm
  obtain ⟨y0, ky0, wy0⟩ := Opens.id (Opens.struct1 Try.underlying61 (Opens.slice Try.underlying22 (Opens.slice Try.underlying32 (Opens.int Try.underlying5) (by kernel_rfl)) (by kernel_rfl)) rfl (by kernel_rfl) (fun x => x) (fun x => x) (fun _ => rfl)) h0
  obtain ⟨cs0, rfl, _⟩ := okWide_struct Try.underlying61 (hval 0 61 v0 rfl rfl)
  obtain ⟨A0_0, c0_0, e0, hc0_0, hr0_0⟩ := ky0
  have hv0 : Value.agg cs0 = .agg #[.slice A0_0 y0.length c0_0] := agg_of e0
  rw [hv0] at hW' k0 ⊢
  have k1 := h1
  have lt1 : ∀ x ∈ p1, x.block < W.heap.size := by obtain ⟨m, hm⟩ := k1; exact DataW.trod_lt m _ _ _ hm
  obtain ⟨y1, ky1, wy1⟩ := Opens.id (Opens.slice Try.underlying97 (Opens.int Try.underlying3) (by kernel_rfl)) h1
  obtain ⟨a1, len1, cap1, rfl⟩ := okWide_slice Try.underlying97 (hval 1 97 v1 rfl rfl)
  obtain ⟨A1, c1, hcs1, hc1, hr1⟩ := ky1
  simp [Value.cells] at hcs1
  obtain ⟨rfl, rfl, rfl⟩ := hcs1
  have k2 := h2
  have lt2 : ∀ x ∈ p2, x.block < W.heap.size := by obtain ⟨m, hm⟩ := k2; exact DataW.trod_lt m _ _ _ hm
  obtain ⟨y2, ky2, wy2⟩ := Opens.id (Opens.slice Try.underlying97 (Opens.int Try.underlying3) (by kernel_rfl)) h2
  obtain ⟨a2, len2, cap2, rfl⟩ := okWide_slice Try.underlying97 (hval 2 97 v2 rfl rfl)
  obtain ⟨A2, c2, hcs2, hc2, hr2⟩ := ky2
  simp [Value.cells] at hcs2
  obtain ⟨rfl, rfl, rfl⟩ := hcs2
  clear hA0 hval0 hsz0
  have h := Pure.FnExactPartOf y0 y1 y2 wy0 wy1 wy2
  refine (laws_FnExactPartOf.calls _ _ y0 _ _ y1 _ _ y2 W hr0_0 hc0_0 hr1 hc1 hr2 hc2 h).mono fun e W' ⟨he, bel0⟩ => ?_
  have bel : Below W.heap.size W W' := bel0
  subst he
  exact ⟨_, rfl, _, _, _, [], _, [], hW', trodAll_mk1 (shut_bool Try.underlying4 _), (trodAll_cons_mk (Below.trod laidOut (by kernel_rfl) (of_decide_eq_true (by kernel_rfl)) k0 bel lt0) (trodAll_cons_mk (Below.trod laidOut (by kernel_rfl) (of_decide_eq_true (by kernel_rfl)) k1 bel lt1) (trodAll_cons_mk (Below.trod laidOut (by kernel_rfl) (of_decide_eq_true (by kernel_rfl)) k2 bel lt2) trodAll_mk0))), rfl, bel.frame _, fun h => by cases h⟩
theorem over : Rows.fnExactPartOfRow.holds Try.pinned (OpenSpec.ofChange Rows.fnExactPartOfSpec) :=
  OpenClaim.holds_of_wide 14 Try.f14 rfl rfl rfl rfl rfl rfl rfl ⟨rfl, rfl, rfl, rfl, rfl⟩ rfl rfl rfl rfl rfl (by kernel_rfl) Try.func14 (by kernel_rfl)
    (of_decide_eq_true (by kernel_rfl)) (by unfold Func.isWrapper; first | (rw [if_pos (by decide +kernel)]; kernel_rfl) | (rw [if_neg (by decide +kernel)]; exact ⟨rfl, rfl⟩))
    (fun os started H enc _ => lifted os started H enc)
theorem proved : Rows.FnExactPartOfSaid := over
end Go.Proofs.Ytggiajjnfldkgaa.fnExactPartOf
namespace Go.Proofs.Ytggiajjnfldkgaa
/-- The row, under a short name, for the claim. -/
theorem fnExactPartOf_holds : Rows.FnExactPartOfSaid := fnExactPartOf.proved
end Go.Proofs.Ytggiajjnfldkgaa
