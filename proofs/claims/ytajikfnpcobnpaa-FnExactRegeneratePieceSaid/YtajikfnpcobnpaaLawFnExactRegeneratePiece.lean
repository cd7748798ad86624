-- The row of the law FnExactRegeneratePiece, out of its pure statement and its contract.
import Derived.Test.YtajikfnpcobnpaaRows
import Derived.Test.YtajikfnpcobnpaaPFnExactRegeneratePiecex14
import Derived.Test.YtajikfnpcobnpaaPureFnExactRegeneratePiece
import Derived.Test.YtajikfnpcobnpaaVRegeneratePieceLift
import Derived.WalkKit
import Derived.ProofKit
import Derived.OpenShut
import Derived.ShutString
import Derived.ChangeOld
import Derived.Below
import Derived.SizedLaws
import Derived.Carry
namespace Go.Proofs.Ytajikfnpcobnpaa.fnExactRegeneratePiece
open Go.ChangeShapes Go.WideShapes Go.ChangeAt Go.RowKit Go.Proofs.Ytajikfnpcobnpaa.Lift Go.Proofs.YtajikfnpcobnpaaW.PrintWords Go.Proofs.Ytajikfnpcobnpaa.PFnExactRegeneratePiece
open Go.ChangeMaps (open_string shut_string)
set_option linter.unusedVariables false
set_option linter.unusedSimpArgs false
theorem own : ownKnob Try.prog.godebug = none := by kernel_rfl
theorem laidOut : laidOutB Try.prog = true := by kernel_rfl
set_option maxRecDepth 100000 in
theorem lifted (os : Os) (started : os.Started) (H : Type) (enc : TypeId × Value → H) :
    ReturnsInHanded {} Try.checked os 8 .any (Rows.fnExactRegeneratePieceSpec.pre6 enc Try.prog Try.f8 Rows.fnExactRegeneratePieceRow.domain false) (Rows.fnExactRegeneratePieceSpec.post enc Try.prog Try.f8 false true false false) := by
  refine returnsInHanded_of_change_sized (C := Try.checked) own started (by kernel_rfl) Try.func8
    (ChangeSpec.witness6 (enc := enc) (C := Try.checked) false ⟨#[], #[.agg #[.int .i64 0, .int .i64 0], .int .i64 0, .slice none 0 0], []⟩ 8 (by kernel_rfl) (by kernel_rfl) (by kernel_rfl) (by kernel_rfl)) ?_
  intro W base args ds gs before hval0 hW hcnd hsz0 _
  have hval : ∀ (j : Nat) t v, Try.f8.params[j]? = some t → args[j]? = some v → Value.okWide Try.prog W .any base t v := hval0
  have hW' := hW
  obtain ⟨p, q, hA0, hV, rfl, hfz, hnd⟩ := hW
  have hA : DataW.TrodAll enc Try.prog W 0 (fun _ => true) true Try.f8.params.toList args.toList ds p := hA0
  rw [Try.params8] at hA hval
  obtain ⟨v0, vs0, d0, ds0, p0, q0, hargs, rfl, rfl, h0, r0⟩ := trodAll_cons hA
  obtain ⟨v1, vs1, d1, ds1, p1, q1, rfl, rfl, rfl, h1, r1⟩ := trodAll_cons r0
  obtain ⟨v2, vs2, d2, ds2, p2, q2, rfl, rfl, rfl, h2, r2⟩ := trodAll_cons r1
  obtain ⟨rfl, rfl, rfl⟩ := trodAll_nil r2
  obtain rfl : args = #[v0, v1, v2] := by cases args; simp_all
  obtain ⟨rfl, rfl⟩ := trodVars_none hV
  have k0 := h0
  have lt0 : ∀ x ∈ p0, x.block < W.heap.size := by obtain ⟨m, hm⟩ := k0; exact DataW.trod_lt m _ _ _ hm
  obtain ⟨y0, ky0, wy0⟩ := Opens.id (Opens.struct2 Try.underlying65 (Opens.int Try.underlying3) (Opens.int Try.underlying3) rfl (by kernel_rfl) (by kernel_rfl) (fun x => x) (fun x => x) (fun _ => rfl)) h0
  obtain ⟨cs0, rfl, _⟩ := okWide_struct Try.underlying65 (hval 0 65 v0 rfl rfl)
  obtain ⟨_, _, e0, rfl, rfl⟩ := ky0
  have hv0 : Value.agg cs0 = .agg #[.int .i64 y0.1, .int .i64 y0.2] := agg_of e0
  rw [hv0] at hW' k0 ⊢
  obtain ⟨a1, rfl, rfl, rfl, w1⟩ := open_int Try.underlying3 (hval 1 3 v1 rfl rfl) h1
  have k2 := h2
  have lt2 : ∀ x ∈ p2, x.block < W.heap.size := by obtain ⟨m, hm⟩ := k2; exact DataW.trod_lt m _ _ _ hm
  obtain ⟨y2, ky2, wy2⟩ := Opens.id (Opens.slice Try.underlying66 (Opens.struct2 Try.underlying153 (Opens.int Try.underlying3) (Opens.int Try.underlying5) rfl (by kernel_rfl) (by kernel_rfl) (fun x : S153 => (x.f0, x.f1)) (fun y => ⟨y.1, y.2⟩) (fun _ => rfl)) (by kernel_rfl)) h2
  obtain ⟨a2, len2, cap2, rfl⟩ := okWide_slice Try.underlying66 (hval 2 66 v2 rfl rfl)
  obtain ⟨A2, c2, hcs2, hc2, hr2⟩ := ky2
  simp [Value.cells] at hcs2
  obtain ⟨rfl, rfl, rfl⟩ := hcs2
  clear hA0 hval0 hsz0
  obtain ⟨k, h⟩ := Pure.FnExactRegeneratePiece y0.1 y0.2 a1 y2 wy0 w1 wy2
  refine (laws_FnExactRegeneratePiece.calls k y0.1 y0.2 a1 _ _ y2 true W hr2 hc2 h).mono fun e W' ⟨he, bel0⟩ => ?_
  have bel : Below W.heap.size W W' := bel0
  subst he
  exact ⟨_, rfl, _, _, _, [], _, [], hW', trodAll_mk1 (shut_bool Try.underlying4 _), (trodAll_cons_mk (Below.trod laidOut (by kernel_rfl) (of_decide_eq_true (by kernel_rfl)) k0 bel lt0) (trodAll_cons_mk (shut_int Try.underlying3 w1) (trodAll_cons_mk (Below.trod laidOut (by kernel_rfl) (of_decide_eq_true (by kernel_rfl)) k2 bel lt2) trodAll_mk0))), rfl, bel.frame _, fun h => by cases h⟩
theorem over : Rows.fnExactRegeneratePieceRow.holds Try.pinned (OpenSpec.ofChange Rows.fnExactRegeneratePieceSpec) :=
  OpenClaim.holds_of_wide 8 Try.f8 rfl rfl rfl rfl rfl rfl rfl ⟨rfl, rfl, rfl, rfl, rfl⟩ rfl rfl rfl rfl rfl (by kernel_rfl) Try.func8 (by kernel_rfl)
    (of_decide_eq_true (by kernel_rfl)) (by unfold Func.isWrapper; first | (rw [if_pos (by decide +kernel)]; kernel_rfl) | (rw [if_neg (by decide +kernel)]; exact ⟨rfl, rfl⟩))
    (fun os started H enc _ => lifted os started H enc)
theorem proved : Rows.FnExactRegeneratePieceSaid := over
end Go.Proofs.Ytajikfnpcobnpaa.fnExactRegeneratePiece
namespace Go.Proofs.Ytajikfnpcobnpaa
/-- The row, under a short name, for the claim. -/
theorem fnExactRegeneratePiece_holds : Rows.FnExactRegeneratePieceSaid := fnExactRegeneratePiece.proved
end Go.Proofs.Ytajikfnpcobnpaa
