/-
  No cell of these rows narrows 'for every input' (looked for: loops, veiled, ifaces, maps, wideKeys, modest, calm, conditions, laid).
  DERIVED. THE GIVEN ROWS OF THIS SEAT. 6 by the template 'for every input the law returns true; each argument reads behind the call as it read before'; 0 by the template 'total and deterministic' (their statements: YteflgifmdojahaaTotals.lean).
  GIVEN WITH THE SEED: the statements are not yours to turn. If you find one false, say at which input.
  Laid BY PROGRAM, IN A SANDBOX (cutbox-rows.mjs): the forced cells as the released guide's own fill.sh prints them over the translation 34ff0e55d575332c… (all of the seat's roots in one cut). By AI agents, Wed Nov 11 2026. No macro, syntax, notation, axiom, sorry.
-/
import Derived.Test.YteflgifmdojahaaChecked
import GoSem.Claim
import GoSem.ClaimJoined
import GoSem.ClaimMapViews
import Derived.JoinedTies
import Derived.KernelRfl
namespace Go.Proofs.Yteflgifmdojahaa
/- THE CELL 'sum', in the pinned program and in every row, IS THE sha256 OF THE DUMP (.gsa) THAT YteflgifmdojahaaProg.lean LOADS. Nothing in Lean hashes anything: it is a label: what it is worth is what the hold of that sum in a sandbox is worth. -/
noncomputable def Try.pinned : Pinned := { name := "yteflgifmdojahaa", sum := "34ff0e55d575332ce1c47a51bcaa87c960ffe16ec813aa6a245ed81e6a0e8eac", checked := Try.checked }
namespace Rows
def none {H : Type} : Left H := { results := [], args := [] }

/-- 'laws.FnExactMessageOf': WHATEVER THE INPUT: true; the input reads as it did. -/
def fnExactMessageOfSpec : ChangeSpec := { name := "fnExactMessageOf", fn := fun _ => fun
  | [d1, d2] => { results := [.lit (.bool true)], args := [d1, d2] }
  | _ => none }
def fnExactMessageOfRow : OpenClaim := { program := "yteflgifmdojahaa", sum := "34ff0e55d575332ce1c47a51bcaa87c960ffe16ec813aa6a245ed81e6a0e8eac", func := "loop.example/g00294/laws.FnExactMessageOf", spec := "fnExactMessageOf", unfollowed := true, recurses := true, apart := false }
def FnExactMessageOfSaid : Prop := fnExactMessageOfRow.holds Try.pinned (OpenSpec.ofChange fnExactMessageOfSpec)

/-- ITS FALSE NEIGHBOUR: 'it returns false'. Refute it at one input. -/
def fnExactMessageOfWrong : ChangeSpec := { name := "fnExactMessageOf", fn := fun _ => fun
  | [d1, d2] => { results := [.lit (.bool false)], args := [d1, d2] }
  | _ => none }
def FnExactMessageOfWrongFalsely : Prop := fnExactMessageOfRow.holds Try.pinned (OpenSpec.ofChange fnExactMessageOfWrong)

/-- 'laws.FnExactEncodeMsr': WHATEVER THE INPUT: true; the input reads as it did. -/
def fnExactEncodeMsrSpec : ChangeSpec := { name := "fnExactEncodeMsr", fn := fun _ => fun
  | [d1, d2] => { results := [.lit (.bool true)], args := [d1, d2] }
  | _ => none }
def fnExactEncodeMsrRow : OpenClaim := { program := "yteflgifmdojahaa", sum := "34ff0e55d575332ce1c47a51bcaa87c960ffe16ec813aa6a245ed81e6a0e8eac", func := "loop.example/g00294/laws.FnExactEncodeMsr", spec := "fnExactEncodeMsr", unfollowed := true, recurses := true, apart := false }
def FnExactEncodeMsrSaid : Prop := fnExactEncodeMsrRow.holds Try.pinned (OpenSpec.ofChange fnExactEncodeMsrSpec)

/-- ITS FALSE NEIGHBOUR: 'it returns false'. Refute it at one input. -/
def fnExactEncodeMsrWrong : ChangeSpec := { name := "fnExactEncodeMsr", fn := fun _ => fun
  | [d1, d2] => { results := [.lit (.bool false)], args := [d1, d2] }
  | _ => none }
def FnExactEncodeMsrWrongFalsely : Prop := fnExactEncodeMsrRow.holds Try.pinned (OpenSpec.ofChange fnExactEncodeMsrWrong)

/-- 'laws.FnExactMendLocal': WHATEVER THE INPUT: true; the input reads as it did. -/
def fnExactMendLocalSpec : ChangeSpec := { name := "fnExactMendLocal", fn := fun _ => fun
  | [d1, d2, d3] => { results := [.lit (.bool true)], args := [d1, d2, d3] }
  | _ => none }
def fnExactMendLocalRow : OpenClaim := { program := "yteflgifmdojahaa", sum := "34ff0e55d575332ce1c47a51bcaa87c960ffe16ec813aa6a245ed81e6a0e8eac", func := "loop.example/g00294/laws.FnExactMendLocal", spec := "fnExactMendLocal", unfollowed := true, recurses := true, apart := false }
def FnExactMendLocalSaid : Prop := fnExactMendLocalRow.holds Try.pinned (OpenSpec.ofChange fnExactMendLocalSpec)

/-- ITS FALSE NEIGHBOUR: 'it returns false'. Refute it at one input. -/
def fnExactMendLocalWrong : ChangeSpec := { name := "fnExactMendLocal", fn := fun _ => fun
  | [d1, d2, d3] => { results := [.lit (.bool false)], args := [d1, d2, d3] }
  | _ => none }
def FnExactMendLocalWrongFalsely : Prop := fnExactMendLocalRow.holds Try.pinned (OpenSpec.ofChange fnExactMendLocalWrong)

/-- 'laws.FnCauchy': WHATEVER THE INPUT: true; the input reads as it did. -/
def fnCauchySpec : ChangeSpec := { name := "fnCauchy", fn := fun _ => fun
  | [d1, d2] => { results := [.lit (.bool true)], args := [d1, d2] }
  | _ => none }
def fnCauchyRow : OpenClaim := { program := "yteflgifmdojahaa", sum := "34ff0e55d575332ce1c47a51bcaa87c960ffe16ec813aa6a245ed81e6a0e8eac", func := "loop.example/g00294/laws.FnCauchy", spec := "fnCauchy", unfollowed := true, recurses := true, apart := false }
def FnCauchySaid : Prop := fnCauchyRow.holds Try.pinned (OpenSpec.ofChange fnCauchySpec)

/-- ITS FALSE NEIGHBOUR: 'it returns false'. Refute it at one input. -/
def fnCauchyWrong : ChangeSpec := { name := "fnCauchy", fn := fun _ => fun
  | [d1, d2] => { results := [.lit (.bool false)], args := [d1, d2] }
  | _ => none }
def FnCauchyWrongFalsely : Prop := fnCauchyRow.holds Try.pinned (OpenSpec.ofChange fnCauchyWrong)

/-- 'laws.FnMsr': WHATEVER THE INPUT: true; the input reads as it did. -/
def fnMsrSpec : ChangeSpec := { name := "fnMsr", fn := fun _ => fun
  | [d1, d2] => { results := [.lit (.bool true)], args := [d1, d2] }
  | _ => none }
def fnMsrRow : OpenClaim := { program := "yteflgifmdojahaa", sum := "34ff0e55d575332ce1c47a51bcaa87c960ffe16ec813aa6a245ed81e6a0e8eac", func := "loop.example/g00294/laws.FnMsr", spec := "fnMsr", unfollowed := true, recurses := true, apart := false }
def FnMsrSaid : Prop := fnMsrRow.holds Try.pinned (OpenSpec.ofChange fnMsrSpec)

/-- ITS FALSE NEIGHBOUR: 'it returns false'. Refute it at one input. -/
def fnMsrWrong : ChangeSpec := { name := "fnMsr", fn := fun _ => fun
  | [d1, d2] => { results := [.lit (.bool false)], args := [d1, d2] }
  | _ => none }
def FnMsrWrongFalsely : Prop := fnMsrRow.holds Try.pinned (OpenSpec.ofChange fnMsrWrong)

/-- 'laws.FnRegenerated': WHATEVER THE INPUT: true; the input reads as it did. -/
def fnRegeneratedSpec : ChangeSpec := { name := "fnRegenerated", fn := fun _ => fun
  | [d1, d2] => { results := [.lit (.bool true)], args := [d1, d2] }
  | _ => none }
def fnRegeneratedRow : OpenClaim := { program := "yteflgifmdojahaa", sum := "34ff0e55d575332ce1c47a51bcaa87c960ffe16ec813aa6a245ed81e6a0e8eac", func := "loop.example/g00294/laws.FnRegenerated", spec := "fnRegenerated", unfollowed := true, recurses := true, apart := false }
def FnRegeneratedSaid : Prop := fnRegeneratedRow.holds Try.pinned (OpenSpec.ofChange fnRegeneratedSpec)

/-- ITS FALSE NEIGHBOUR: 'it returns false'. Refute it at one input. -/
def fnRegeneratedWrong : ChangeSpec := { name := "fnRegenerated", fn := fun _ => fun
  | [d1, d2] => { results := [.lit (.bool false)], args := [d1, d2] }
  | _ => none }
def FnRegeneratedWrongFalsely : Prop := fnRegeneratedRow.holds Try.pinned (OpenSpec.ofChange fnRegeneratedWrong)

/- THE SECOND FORM. 'bulk': how many values and letters a reading holds, each counted each time it is reached (what is shared counts as often as it is met; a slice's spare places count too). A statement '..UptoSaid' is the law's where the arguments, and the package variables that the reading takes, are together of bulk at most 1048576: NARROWER than '..Said'. Prove '..Said' where nothing that the law and all that it calls make is longer than what came in: it says more and counts as full. Else prove '..UptoSaid'. A law counts once. -/
mutual
def uptoBulk {H : Type} : DataW H → Nat
  | .lit (.string bytes) => bytes.length + 1
  | .lit _ => 1
  | .nil => 1
  | .ptr d => uptoBulk d + 1
  | .slice elems spare => uptoBulkAll elems + uptoBulkAll spare + 1
  | .agg parts => uptoBulkAll parts + 1
  | .iface _ d => uptoBulk d + 1
  | .map entries => uptoBulkEntries entries + 1
  | .held _ => 1
def uptoBulkAll {H : Type} : List (DataW H) → Nat
  | [] => 0
  | d :: r => uptoBulk d + uptoBulkAll r
def uptoBulkEntries {H : Type} : List (Lit × DataW H) → Nat
  | [] => 0
  | x :: r => uptoBulkEntry x + uptoBulkEntries r
def uptoBulkEntry {H : Type} : Lit × DataW H → Nat
  | (.string bytes, d) => bytes.length + uptoBulk d + 1
  | (_, d) => uptoBulk d + 1
 end
def uptoSmall : (H : Type) → List (DataW H) → Bool := fun _ ds => decide (uptoBulkAll ds ≤ 1048576)
def OpenSpec.upto (s : _root_.Go.ChangeSpec) : _root_.Go.OpenSpec := { _root_.Go.OpenSpec.ofChange s with cond := some uptoSmall }

/-- 'laws.FnExactMessageOf', WHERE WHAT IT READS IS OF BULK AT MOST 1048576: true; the input reads as it did. -/
def fnExactMessageOfUptoRow : OpenClaim := { program := "yteflgifmdojahaa", sum := "34ff0e55d575332ce1c47a51bcaa87c960ffe16ec813aa6a245ed81e6a0e8eac", func := "loop.example/g00294/laws.FnExactMessageOf", spec := "fnExactMessageOf", unfollowed := true, recurses := true, apart := false, narrowed := true }
def FnExactMessageOfUptoSaid : Prop := fnExactMessageOfUptoRow.holds Try.pinned (OpenSpec.upto fnExactMessageOfSpec)

/-- 'laws.FnExactEncodeMsr', WHERE WHAT IT READS IS OF BULK AT MOST 1048576: true; the input reads as it did. -/
def fnExactEncodeMsrUptoRow : OpenClaim := { program := "yteflgifmdojahaa", sum := "34ff0e55d575332ce1c47a51bcaa87c960ffe16ec813aa6a245ed81e6a0e8eac", func := "loop.example/g00294/laws.FnExactEncodeMsr", spec := "fnExactEncodeMsr", unfollowed := true, recurses := true, apart := false, narrowed := true }
def FnExactEncodeMsrUptoSaid : Prop := fnExactEncodeMsrUptoRow.holds Try.pinned (OpenSpec.upto fnExactEncodeMsrSpec)

/-- 'laws.FnExactMendLocal', WHERE WHAT IT READS IS OF BULK AT MOST 1048576: true; the input reads as it did. -/
def fnExactMendLocalUptoRow : OpenClaim := { program := "yteflgifmdojahaa", sum := "34ff0e55d575332ce1c47a51bcaa87c960ffe16ec813aa6a245ed81e6a0e8eac", func := "loop.example/g00294/laws.FnExactMendLocal", spec := "fnExactMendLocal", unfollowed := true, recurses := true, apart := false, narrowed := true }
def FnExactMendLocalUptoSaid : Prop := fnExactMendLocalUptoRow.holds Try.pinned (OpenSpec.upto fnExactMendLocalSpec)

/-- 'laws.FnCauchy', WHERE WHAT IT READS IS OF BULK AT MOST 1048576: true; the input reads as it did. -/
def fnCauchyUptoRow : OpenClaim := { program := "yteflgifmdojahaa", sum := "34ff0e55d575332ce1c47a51bcaa87c960ffe16ec813aa6a245ed81e6a0e8eac", func := "loop.example/g00294/laws.FnCauchy", spec := "fnCauchy", unfollowed := true, recurses := true, apart := false, narrowed := true }
def FnCauchyUptoSaid : Prop := fnCauchyUptoRow.holds Try.pinned (OpenSpec.upto fnCauchySpec)

/-- 'laws.FnMsr', WHERE WHAT IT READS IS OF BULK AT MOST 1048576: true; the input reads as it did. -/
def fnMsrUptoRow : OpenClaim := { program := "yteflgifmdojahaa", sum := "34ff0e55d575332ce1c47a51bcaa87c960ffe16ec813aa6a245ed81e6a0e8eac", func := "loop.example/g00294/laws.FnMsr", spec := "fnMsr", unfollowed := true, recurses := true, apart := false, narrowed := true }
def FnMsrUptoSaid : Prop := fnMsrUptoRow.holds Try.pinned (OpenSpec.upto fnMsrSpec)

/-- 'laws.FnRegenerated', WHERE WHAT IT READS IS OF BULK AT MOST 1048576: true; the input reads as it did. -/
def fnRegeneratedUptoRow : OpenClaim := { program := "yteflgifmdojahaa", sum := "34ff0e55d575332ce1c47a51bcaa87c960ffe16ec813aa6a245ed81e6a0e8eac", func := "loop.example/g00294/laws.FnRegenerated", spec := "fnRegenerated", unfollowed := true, recurses := true, apart := false, narrowed := true }
def FnRegeneratedUptoSaid : Prop := fnRegeneratedUptoRow.holds Try.pinned (OpenSpec.upto fnRegeneratedSpec)

end Rows
end Go.Proofs.Yteflgifmdojahaa
