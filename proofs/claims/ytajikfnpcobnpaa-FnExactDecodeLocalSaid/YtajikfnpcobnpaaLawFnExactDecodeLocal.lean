-- The row of the law FnExactDecodeLocal, out of its pure statement and its contract.
import Derived.Test.YtajikfnpcobnpaaRows
import Derived.Test.YtajikfnpcobnpaaPFnExactDecodeLocalx6
import Derived.Test.YtajikfnpcobnpaaPureFnExactDecodeLocal
import Derived.Test.YtajikfnpcobnpaaVDecodeLocalC
import Derived.WalkKit
import Derived.ProofKit
import Derived.OpenShut
import Derived.ShutString
import Derived.ChangeOld
import Derived.Below
import Derived.SizedLaws
import Derived.Carry
namespace Go.Proofs.Ytajikfnpcobnpaa.fnExactDecodeLocal
open Go.ChangeShapes Go.WideShapes Go.ChangeAt Go.RowKit Go.Proofs.Ytajikfnpcobnpaa.Lift Go.Proofs.YtajikfnpcobnpaaW.PrintWords Go.Proofs.Ytajikfnpcobnpaa.PFnExactDecodeLocal
open Go.ChangeMaps (open_string shut_string)
set_option linter.unusedVariables false
set_option linter.unusedSimpArgs false
theorem own : ownKnob Try.prog.godebug = none := by kernel_rfl
theorem laidOut : laidOutB Try.prog = true := by kernel_rfl
set_option maxRecDepth 100000 in
theorem lifted (os : Os) (started : os.Started) (H : Type) (enc : TypeId × Value → H) :
    ReturnsInHanded {} Try.checked os 13 .any (Rows.fnExactDecodeLocalSpec.pre6 enc Try.prog Try.f13 Rows.fnExactDecodeLocalRow.domain false) (Rows.fnExactDecodeLocalSpec.post enc Try.prog Try.f13 false true false false) := by
  refine returnsInHanded_of_change_sized (C := Try.checked) own started (by kernel_rfl) Try.func13
    (ChangeSpec.witness6 (enc := enc) (C := Try.checked) false ⟨#[], #[.agg #[.int .i64 0, .int .i64 0, .int .i64 0], .slice none 0 0], []⟩ 8 (by kernel_rfl) (by kernel_rfl) (by kernel_rfl) (by kernel_rfl)) ?_
  intro W base args ds gs before hval0 hW hcnd hsz0 _
  have hval : ∀ (j : Nat) t v, Try.f13.params[j]? = some t → args[j]? = some v → Value.okWide Try.prog W .any base t v := hval0
  have hW' := hW
  obtain ⟨p, q, hA0, hV, rfl, hfz, hnd⟩ := hW
  have hA : DataW.TrodAll enc Try.prog W 0 (fun _ => true) true Try.f13.params.toList args.toList ds p := hA0
  rw [Try.params13] at hA hval
  obtain ⟨v0, vs0, d0, ds0, p0, q0, hargs, rfl, rfl, h0, r0⟩ := trodAll_cons hA
  obtain ⟨v1, vs1, d1, ds1, p1, q1, rfl, rfl, rfl, h1, r1⟩ := trodAll_cons r0
  obtain ⟨rfl, rfl, rfl⟩ := trodAll_nil r1
  obtain rfl : args = #[v0, v1] := by cases args; simp_all
  obtain ⟨rfl, rfl⟩ := trodVars_none hV
  have k0 := h0
  have lt0 : ∀ x ∈ p0, x.block < W.heap.size := by obtain ⟨m, hm⟩ := k0; exact DataW.trod_lt m _ _ _ hm
  obtain ⟨y0, ky0, wy0⟩ := Opens.id (Opens.struct3 Try.underlying48 (Opens.int Try.underlying3) (Opens.int Try.underlying3) (Opens.int Try.underlying3) rfl (by kernel_rfl) (by kernel_rfl) (by kernel_rfl) (fun x => x) (fun x => x) (fun _ => rfl)) h0
  obtain ⟨cs0, rfl, _⟩ := okWide_struct Try.underlying48 (hval 0 48 v0 rfl rfl)
  obtain ⟨_, _, e0, rfl, _, _, rfl, rfl, rfl⟩ := ky0
  have hv0 : Value.agg cs0 = .agg #[.int .i64 y0.1, .int .i64 y0.2.1, .int .i64 y0.2.2] := agg_of e0
  rw [hv0] at hW' k0 ⊢
  have k1 := h1
  have lt1 : ∀ x ∈ p1, x.block < W.heap.size := by obtain ⟨m, hm⟩ := k1; exact DataW.trod_lt m _ _ _ hm
  obtain ⟨y1, ky1, wy1⟩ := Opens.id (Opens.slice Try.underlying81 (Opens.struct2 Try.underlying160 (Opens.int Try.underlying3) (Opens.string Try.underlying9) rfl (by kernel_rfl) (by kernel_rfl) (fun x : S160 => (x.f0, x.f1)) (fun y => ⟨y.1, y.2⟩) (fun _ => rfl)) (by kernel_rfl)) h1
  obtain ⟨a1, len1, cap1, rfl⟩ := okWide_slice Try.underlying81 (hval 1 81 v1 rfl rfl)
  obtain ⟨A1, c1, hcs1, hc1, hr1⟩ := ky1
  simp [Value.cells] at hcs1
  obtain ⟨rfl, rfl, rfl⟩ := hcs1
  clear hA0 hval0 hsz0
  obtain ⟨k, h⟩ := Pure.FnExactDecodeLocal y0.1 y0.2.1 y0.2.2 y1 wy0 wy1
  refine (laws_FnExactDecodeLocal.calls k y0.1 y0.2.1 y0.2.2 _ _ y1 true W hr1 hc1 h).mono fun e W' ⟨he, bel0⟩ => ?_
  have bel : Below W.heap.size W W' := bel0
  subst he
  exact ⟨_, rfl, _, _, _, [], _, [], hW', trodAll_mk1 (shut_bool Try.underlying4 _), (trodAll_cons_mk (Below.trod laidOut (by kernel_rfl) (of_decide_eq_true (by kernel_rfl)) k0 bel lt0) (trodAll_cons_mk (Below.trod laidOut (by kernel_rfl) (of_decide_eq_true (by kernel_rfl)) k1 bel lt1) trodAll_mk0)), rfl, bel.frame _, fun h => by cases h⟩
theorem over : Rows.fnExactDecodeLocalRow.holds Try.pinned (OpenSpec.ofChange Rows.fnExactDecodeLocalSpec) :=
  OpenClaim.holds_of_wide 13 Try.f13 rfl rfl rfl rfl rfl rfl rfl ⟨rfl, rfl, rfl, rfl, rfl⟩ rfl rfl rfl rfl rfl (by kernel_rfl) Try.func13 (by kernel_rfl)
    (of_decide_eq_true (by kernel_rfl)) (by unfold Func.isWrapper; first | (rw [if_pos (by decide +kernel)]; kernel_rfl) | (rw [if_neg (by decide +kernel)]; exact ⟨rfl, rfl⟩))
    (fun os started H enc _ => lifted os started H enc)
theorem proved : Rows.FnExactDecodeLocalSaid := over
end Go.Proofs.Ytajikfnpcobnpaa.fnExactDecodeLocal
namespace Go.Proofs.Ytajikfnpcobnpaa
/-- The row, under a short name, for the claim. -/
theorem fnExactDecodeLocal_holds : Rows.FnExactDecodeLocalSaid := fnExactDecodeLocal.proved
end Go.Proofs.Ytajikfnpcobnpaa
