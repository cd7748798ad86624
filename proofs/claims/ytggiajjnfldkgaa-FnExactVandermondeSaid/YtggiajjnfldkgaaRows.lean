/-
  No cell of these rows narrows 'for every input' (looked for: loops, veiled, ifaces, maps, wideKeys, modest, calm, conditions, laid).
  DERIVED. THE GIVEN ROWS OF THIS SEAT. 12 by the template 'for every input the law returns true; each argument reads behind the call as it read before'; 0 by the template 'total and deterministic' (their statements: YtggiajjnfldkgaaTotals.lean).
  GIVEN WITH THE SEED: the statements are not yours to turn. If you find one false, say at which input.
  Laid BY PROGRAM, IN A SANDBOX (cutbox-rows.mjs): the forced cells as the released guide's own fill.sh prints them over the translation c61a896da821ba7a… (all of the seat's roots in one cut). By AI agents, Wed Nov 11 2026. No macro, syntax, notation, axiom, sorry.
-/
import Derived.Test.YtggiajjnfldkgaaChecked
import GoSem.Claim
import GoSem.ClaimJoined
import GoSem.ClaimMapViews
import Derived.JoinedTies
import Derived.KernelRfl
namespace Go.Proofs.Ytggiajjnfldkgaa
/- THE CELL 'sum', in the pinned program and in every row, IS THE sha256 OF THE DUMP (.gsa) THAT YtggiajjnfldkgaaProg.lean LOADS. Nothing in Lean hashes anything: it is a label: what it is worth is what the hold of that sum in a sandbox is worth. -/
noncomputable def Try.pinned : Pinned := { name := "ytggiajjnfldkgaa", sum := "c61a896da821ba7adad623cbea0f14c04f3f0259913091d0f735e6fadd69c31e", checked := Try.checked }
namespace Rows
def none {H : Type} : Left H := { results := [], args := [] }

/-- 'laws.FnExactParityMatrix': WHATEVER THE INPUT: true; the input reads as it did. -/
def fnExactParityMatrixSpec : ChangeSpec := { name := "fnExactParityMatrix", fn := fun _ => fun
  | [d1, d2] => { results := [.lit (.bool true)], args := [d1, d2] }
  | _ => none }
def fnExactParityMatrixRow : OpenClaim := { program := "ytggiajjnfldkgaa", sum := "c61a896da821ba7adad623cbea0f14c04f3f0259913091d0f735e6fadd69c31e", func := "loop.example/g00294/laws.FnExactParityMatrix", spec := "fnExactParityMatrix", unfollowed := true, recurses := true, apart := false }
def FnExactParityMatrixSaid : Prop := fnExactParityMatrixRow.holds Try.pinned (OpenSpec.ofChange fnExactParityMatrixSpec)

/-- ITS FALSE NEIGHBOUR: 'it returns false'. Refute it at one input. -/
def fnExactParityMatrixWrong : ChangeSpec := { name := "fnExactParityMatrix", fn := fun _ => fun
  | [d1, d2] => { results := [.lit (.bool false)], args := [d1, d2] }
  | _ => none }
def FnExactParityMatrixWrongFalsely : Prop := fnExactParityMatrixRow.holds Try.pinned (OpenSpec.ofChange fnExactParityMatrixWrong)

/-- 'laws.FnExactVandermonde': WHATEVER THE INPUT: true; the input reads as it did. -/
def fnExactVandermondeSpec : ChangeSpec := { name := "fnExactVandermonde", fn := fun _ => fun
  | [d1, d2] => { results := [.lit (.bool true)], args := [d1, d2] }
  | _ => none }
def fnExactVandermondeRow : OpenClaim := { program := "ytggiajjnfldkgaa", sum := "c61a896da821ba7adad623cbea0f14c04f3f0259913091d0f735e6fadd69c31e", func := "loop.example/g00294/laws.FnExactVandermonde", spec := "fnExactVandermonde", unfollowed := true, recurses := true, apart := false }
def FnExactVandermondeSaid : Prop := fnExactVandermondeRow.holds Try.pinned (OpenSpec.ofChange fnExactVandermondeSpec)

/-- ITS FALSE NEIGHBOUR: 'it returns false'. Refute it at one input. -/
def fnExactVandermondeWrong : ChangeSpec := { name := "fnExactVandermonde", fn := fun _ => fun
  | [d1, d2] => { results := [.lit (.bool false)], args := [d1, d2] }
  | _ => none }
def FnExactVandermondeWrongFalsely : Prop := fnExactVandermondeRow.holds Try.pinned (OpenSpec.ofChange fnExactVandermondeWrong)

/-- 'laws.FnExactMessageOf': WHATEVER THE INPUT: true; the input reads as it did. -/
def fnExactMessageOfSpec : ChangeSpec := { name := "fnExactMessageOf", fn := fun _ => fun
  | [d1, d2] => { results := [.lit (.bool true)], args := [d1, d2] }
  | _ => none }
def fnExactMessageOfRow : OpenClaim := { program := "ytggiajjnfldkgaa", sum := "c61a896da821ba7adad623cbea0f14c04f3f0259913091d0f735e6fadd69c31e", func := "loop.example/g00294/laws.FnExactMessageOf", spec := "fnExactMessageOf", unfollowed := true, recurses := true, apart := false }
def FnExactMessageOfSaid : Prop := fnExactMessageOfRow.holds Try.pinned (OpenSpec.ofChange fnExactMessageOfSpec)

/-- ITS FALSE NEIGHBOUR: 'it returns false'. Refute it at one input. -/
def fnExactMessageOfWrong : ChangeSpec := { name := "fnExactMessageOf", fn := fun _ => fun
  | [d1, d2] => { results := [.lit (.bool false)], args := [d1, d2] }
  | _ => none }
def FnExactMessageOfWrongFalsely : Prop := fnExactMessageOfRow.holds Try.pinned (OpenSpec.ofChange fnExactMessageOfWrong)

/-- 'laws.FnExactHelpFor': WHATEVER THE INPUT: true; the input reads as it did. -/
def fnExactHelpForSpec : ChangeSpec := { name := "fnExactHelpFor", fn := fun _ => fun
  | [d1, d2, d3] => { results := [.lit (.bool true)], args := [d1, d2, d3] }
  | _ => none }
def fnExactHelpForRow : OpenClaim := { program := "ytggiajjnfldkgaa", sum := "c61a896da821ba7adad623cbea0f14c04f3f0259913091d0f735e6fadd69c31e", func := "loop.example/g00294/laws.FnExactHelpFor", spec := "fnExactHelpFor", apart := false }
def FnExactHelpForSaid : Prop := fnExactHelpForRow.holds Try.pinned (OpenSpec.ofChange fnExactHelpForSpec)

/-- ITS FALSE NEIGHBOUR: 'it returns false'. Refute it at one input. -/
def fnExactHelpForWrong : ChangeSpec := { name := "fnExactHelpFor", fn := fun _ => fun
  | [d1, d2, d3] => { results := [.lit (.bool false)], args := [d1, d2, d3] }
  | _ => none }
def FnExactHelpForWrongFalsely : Prop := fnExactHelpForRow.holds Try.pinned (OpenSpec.ofChange fnExactHelpForWrong)

/-- 'laws.FnVectors': WHATEVER THE INPUT: true; the input reads as it did. -/
def fnVectorsSpec : ChangeSpec := { name := "fnVectors", fn := fun _ => fun
  | [d1, d2] => { results := [.lit (.bool true)], args := [d1, d2] }
  | _ => none }
def fnVectorsRow : OpenClaim := { program := "ytggiajjnfldkgaa", sum := "c61a896da821ba7adad623cbea0f14c04f3f0259913091d0f735e6fadd69c31e", func := "loop.example/g00294/laws.FnVectors", spec := "fnVectors", apart := false }
def FnVectorsSaid : Prop := fnVectorsRow.holds Try.pinned (OpenSpec.ofChange fnVectorsSpec)

/-- ITS FALSE NEIGHBOUR: 'it returns false'. Refute it at one input. -/
def fnVectorsWrong : ChangeSpec := { name := "fnVectors", fn := fun _ => fun
  | [d1, d2] => { results := [.lit (.bool false)], args := [d1, d2] }
  | _ => none }
def FnVectorsWrongFalsely : Prop := fnVectorsRow.holds Try.pinned (OpenSpec.ofChange fnVectorsWrong)

/-- 'laws.FnExactCauchy': WHATEVER THE INPUT: true; the input reads as it did. -/
def fnExactCauchySpec : ChangeSpec := { name := "fnExactCauchy", fn := fun _ => fun
  | [d1, d2] => { results := [.lit (.bool true)], args := [d1, d2] }
  | _ => none }
def fnExactCauchyRow : OpenClaim := { program := "ytggiajjnfldkgaa", sum := "c61a896da821ba7adad623cbea0f14c04f3f0259913091d0f735e6fadd69c31e", func := "loop.example/g00294/laws.FnExactCauchy", spec := "fnExactCauchy", unfollowed := true, recurses := true, apart := false }
def FnExactCauchySaid : Prop := fnExactCauchyRow.holds Try.pinned (OpenSpec.ofChange fnExactCauchySpec)

/-- ITS FALSE NEIGHBOUR: 'it returns false'. Refute it at one input. -/
def fnExactCauchyWrong : ChangeSpec := { name := "fnExactCauchy", fn := fun _ => fun
  | [d1, d2] => { results := [.lit (.bool false)], args := [d1, d2] }
  | _ => none }
def FnExactCauchyWrongFalsely : Prop := fnExactCauchyRow.holds Try.pinned (OpenSpec.ofChange fnExactCauchyWrong)

/-- 'laws.FnExactTransposed': WHATEVER THE INPUT: true; the input reads as it did. -/
def fnExactTransposedSpec : ChangeSpec := { name := "fnExactTransposed", fn := fun _ => fun
  | [d] => { results := [.lit (.bool true)], args := [d] }
  | _ => none }
def fnExactTransposedRow : OpenClaim := { program := "ytggiajjnfldkgaa", sum := "c61a896da821ba7adad623cbea0f14c04f3f0259913091d0f735e6fadd69c31e", func := "loop.example/g00294/laws.FnExactTransposed", spec := "fnExactTransposed", unfollowed := true, recurses := true, apart := false }
def FnExactTransposedSaid : Prop := fnExactTransposedRow.holds Try.pinned (OpenSpec.ofChange fnExactTransposedSpec)

/-- ITS FALSE NEIGHBOUR: 'it returns false'. Refute it at one input. -/
def fnExactTransposedWrong : ChangeSpec := { name := "fnExactTransposed", fn := fun _ => fun
  | [d] => { results := [.lit (.bool false)], args := [d] }
  | _ => none }
def FnExactTransposedWrongFalsely : Prop := fnExactTransposedRow.holds Try.pinned (OpenSpec.ofChange fnExactTransposedWrong)

/-- 'laws.FnExactCodeMatrix': WHATEVER THE INPUT: true; the input reads as it did. -/
def fnExactCodeMatrixSpec : ChangeSpec := { name := "fnExactCodeMatrix", fn := fun _ => fun
  | [d1, d2] => { results := [.lit (.bool true)], args := [d1, d2] }
  | _ => none }
def fnExactCodeMatrixRow : OpenClaim := { program := "ytggiajjnfldkgaa", sum := "c61a896da821ba7adad623cbea0f14c04f3f0259913091d0f735e6fadd69c31e", func := "loop.example/g00294/laws.FnExactCodeMatrix", spec := "fnExactCodeMatrix", unfollowed := true, recurses := true, apart := false }
def FnExactCodeMatrixSaid : Prop := fnExactCodeMatrixRow.holds Try.pinned (OpenSpec.ofChange fnExactCodeMatrixSpec)

/-- ITS FALSE NEIGHBOUR: 'it returns false'. Refute it at one input. -/
def fnExactCodeMatrixWrong : ChangeSpec := { name := "fnExactCodeMatrix", fn := fun _ => fun
  | [d1, d2] => { results := [.lit (.bool false)], args := [d1, d2] }
  | _ => none }
def FnExactCodeMatrixWrongFalsely : Prop := fnExactCodeMatrixRow.holds Try.pinned (OpenSpec.ofChange fnExactCodeMatrixWrong)

/-- 'laws.FnExactAddStripes': WHATEVER THE INPUT: true; the input reads as it did. -/
def fnExactAddStripesSpec : ChangeSpec := { name := "fnExactAddStripes", fn := fun _ => fun
  | [d1, d2] => { results := [.lit (.bool true)], args := [d1, d2] }
  | _ => none }
def fnExactAddStripesRow : OpenClaim := { program := "ytggiajjnfldkgaa", sum := "c61a896da821ba7adad623cbea0f14c04f3f0259913091d0f735e6fadd69c31e", func := "loop.example/g00294/laws.FnExactAddStripes", spec := "fnExactAddStripes", unfollowed := true, recurses := true, apart := false }
def FnExactAddStripesSaid : Prop := fnExactAddStripesRow.holds Try.pinned (OpenSpec.ofChange fnExactAddStripesSpec)

/-- ITS FALSE NEIGHBOUR: 'it returns false'. Refute it at one input. -/
def fnExactAddStripesWrong : ChangeSpec := { name := "fnExactAddStripes", fn := fun _ => fun
  | [d1, d2] => { results := [.lit (.bool false)], args := [d1, d2] }
  | _ => none }
def FnExactAddStripesWrongFalsely : Prop := fnExactAddStripesRow.holds Try.pinned (OpenSpec.ofChange fnExactAddStripesWrong)

/-- 'laws.FnExactSplitText': WHATEVER THE INPUT: true; the input reads as it did. -/
def fnExactSplitTextSpec : ChangeSpec := { name := "fnExactSplitText", fn := fun _ => fun
  | [d1, d2] => { results := [.lit (.bool true)], args := [d1, d2] }
  | _ => none }
def fnExactSplitTextRow : OpenClaim := { program := "ytggiajjnfldkgaa", sum := "c61a896da821ba7adad623cbea0f14c04f3f0259913091d0f735e6fadd69c31e", func := "loop.example/g00294/laws.FnExactSplitText", spec := "fnExactSplitText", inPlace := ["internal/abi.NoEscape", "internal/bytealg.MakeNoZero"], apart := false }
def FnExactSplitTextSaid : Prop := fnExactSplitTextRow.holds Try.pinned (OpenSpec.ofChange fnExactSplitTextSpec)

/-- ITS FALSE NEIGHBOUR: 'it returns false'. Refute it at one input. -/
def fnExactSplitTextWrong : ChangeSpec := { name := "fnExactSplitText", fn := fun _ => fun
  | [d1, d2] => { results := [.lit (.bool false)], args := [d1, d2] }
  | _ => none }
def FnExactSplitTextWrongFalsely : Prop := fnExactSplitTextRow.holds Try.pinned (OpenSpec.ofChange fnExactSplitTextWrong)

/-- 'laws.FnExactMendLocal': WHATEVER THE INPUT: true; the input reads as it did. -/
def fnExactMendLocalSpec : ChangeSpec := { name := "fnExactMendLocal", fn := fun _ => fun
  | [d1, d2, d3] => { results := [.lit (.bool true)], args := [d1, d2, d3] }
  | _ => none }
def fnExactMendLocalRow : OpenClaim := { program := "ytggiajjnfldkgaa", sum := "c61a896da821ba7adad623cbea0f14c04f3f0259913091d0f735e6fadd69c31e", func := "loop.example/g00294/laws.FnExactMendLocal", spec := "fnExactMendLocal", unfollowed := true, recurses := true, apart := false }
def FnExactMendLocalSaid : Prop := fnExactMendLocalRow.holds Try.pinned (OpenSpec.ofChange fnExactMendLocalSpec)

/-- ITS FALSE NEIGHBOUR: 'it returns false'. Refute it at one input. -/
def fnExactMendLocalWrong : ChangeSpec := { name := "fnExactMendLocal", fn := fun _ => fun
  | [d1, d2, d3] => { results := [.lit (.bool false)], args := [d1, d2, d3] }
  | _ => none }
def FnExactMendLocalWrongFalsely : Prop := fnExactMendLocalRow.holds Try.pinned (OpenSpec.ofChange fnExactMendLocalWrong)

/-- 'laws.FnExactPartOf': WHATEVER THE INPUT: true; the input reads as it did. -/
def fnExactPartOfSpec : ChangeSpec := { name := "fnExactPartOf", fn := fun _ => fun
  | [d1, d2, d3] => { results := [.lit (.bool true)], args := [d1, d2, d3] }
  | _ => none }
def fnExactPartOfRow : OpenClaim := { program := "ytggiajjnfldkgaa", sum := "c61a896da821ba7adad623cbea0f14c04f3f0259913091d0f735e6fadd69c31e", func := "loop.example/g00294/laws.FnExactPartOf", spec := "fnExactPartOf", unfollowed := true, recurses := true, apart := false }
def FnExactPartOfSaid : Prop := fnExactPartOfRow.holds Try.pinned (OpenSpec.ofChange fnExactPartOfSpec)

/-- ITS FALSE NEIGHBOUR: 'it returns false'. Refute it at one input. -/
def fnExactPartOfWrong : ChangeSpec := { name := "fnExactPartOf", fn := fun _ => fun
  | [d1, d2, d3] => { results := [.lit (.bool false)], args := [d1, d2, d3] }
  | _ => none }
def FnExactPartOfWrongFalsely : Prop := fnExactPartOfRow.holds Try.pinned (OpenSpec.ofChange fnExactPartOfWrong)

/- THE SECOND FORM. 'bulk': how many values and letters a reading holds, each counted each time it is reached (what is shared counts as often as it is met; a slice's spare places count too). A statement '..UptoSaid' is the law's where the arguments, and the package variables that the reading takes, are together of bulk at most 1048576: NARROWER than '..Said'. Prove '..Said' where nothing that the law and all that it calls make is longer than what came in: it says more and counts as full. Else prove '..UptoSaid'. A law counts once. -/
mutual
def uptoBulk {H : Type} : DataW H → Nat
  | .lit (.string bytes) => bytes.length + 1
  | .lit _ => 1
  | .nil => 1
  | .ptr d => uptoBulk d + 1
  | .slice elems spare => uptoBulkAll elems + uptoBulkAll spare + 1
  | .agg parts => uptoBulkAll parts + 1
  | .iface _ d => uptoBulk d + 1
  | .map entries => uptoBulkEntries entries + 1
  | .held _ => 1
def uptoBulkAll {H : Type} : List (DataW H) → Nat
  | [] => 0
  | d :: r => uptoBulk d + uptoBulkAll r
def uptoBulkEntries {H : Type} : List (Lit × DataW H) → Nat
  | [] => 0
  | x :: r => uptoBulkEntry x + uptoBulkEntries r
def uptoBulkEntry {H : Type} : Lit × DataW H → Nat
  | (.string bytes, d) => bytes.length + uptoBulk d + 1
  | (_, d) => uptoBulk d + 1
 end
def uptoSmall : (H : Type) → List (DataW H) → Bool := fun _ ds => decide (uptoBulkAll ds ≤ 1048576)
def OpenSpec.upto (s : _root_.Go.ChangeSpec) : _root_.Go.OpenSpec := { _root_.Go.OpenSpec.ofChange s with cond := some uptoSmall }

/-- 'laws.FnExactParityMatrix', WHERE WHAT IT READS IS OF BULK AT MOST 1048576: true; the input reads as it did. -/
def fnExactParityMatrixUptoRow : OpenClaim := { program := "ytggiajjnfldkgaa", sum := "c61a896da821ba7adad623cbea0f14c04f3f0259913091d0f735e6fadd69c31e", func := "loop.example/g00294/laws.FnExactParityMatrix", spec := "fnExactParityMatrix", unfollowed := true, recurses := true, apart := false, narrowed := true }
def FnExactParityMatrixUptoSaid : Prop := fnExactParityMatrixUptoRow.holds Try.pinned (OpenSpec.upto fnExactParityMatrixSpec)

/-- 'laws.FnExactVandermonde', WHERE WHAT IT READS IS OF BULK AT MOST 1048576: true; the input reads as it did. -/
def fnExactVandermondeUptoRow : OpenClaim := { program := "ytggiajjnfldkgaa", sum := "c61a896da821ba7adad623cbea0f14c04f3f0259913091d0f735e6fadd69c31e", func := "loop.example/g00294/laws.FnExactVandermonde", spec := "fnExactVandermonde", unfollowed := true, recurses := true, apart := false, narrowed := true }
def FnExactVandermondeUptoSaid : Prop := fnExactVandermondeUptoRow.holds Try.pinned (OpenSpec.upto fnExactVandermondeSpec)

/-- 'laws.FnExactMessageOf', WHERE WHAT IT READS IS OF BULK AT MOST 1048576: true; the input reads as it did. -/
def fnExactMessageOfUptoRow : OpenClaim := { program := "ytggiajjnfldkgaa", sum := "c61a896da821ba7adad623cbea0f14c04f3f0259913091d0f735e6fadd69c31e", func := "loop.example/g00294/laws.FnExactMessageOf", spec := "fnExactMessageOf", unfollowed := true, recurses := true, apart := false, narrowed := true }
def FnExactMessageOfUptoSaid : Prop := fnExactMessageOfUptoRow.holds Try.pinned (OpenSpec.upto fnExactMessageOfSpec)

/-- 'laws.FnExactHelpFor', WHERE WHAT IT READS IS OF BULK AT MOST 1048576: true; the input reads as it did. -/
def fnExactHelpForUptoRow : OpenClaim := { program := "ytggiajjnfldkgaa", sum := "c61a896da821ba7adad623cbea0f14c04f3f0259913091d0f735e6fadd69c31e", func := "loop.example/g00294/laws.FnExactHelpFor", spec := "fnExactHelpFor", apart := false, narrowed := true }
def FnExactHelpForUptoSaid : Prop := fnExactHelpForUptoRow.holds Try.pinned (OpenSpec.upto fnExactHelpForSpec)

/-- 'laws.FnVectors', WHERE WHAT IT READS IS OF BULK AT MOST 1048576: true; the input reads as it did. -/
def fnVectorsUptoRow : OpenClaim := { program := "ytggiajjnfldkgaa", sum := "c61a896da821ba7adad623cbea0f14c04f3f0259913091d0f735e6fadd69c31e", func := "loop.example/g00294/laws.FnVectors", spec := "fnVectors", apart := false, narrowed := true }
def FnVectorsUptoSaid : Prop := fnVectorsUptoRow.holds Try.pinned (OpenSpec.upto fnVectorsSpec)

/-- 'laws.FnExactCauchy', WHERE WHAT IT READS IS OF BULK AT MOST 1048576: true; the input reads as it did. -/
def fnExactCauchyUptoRow : OpenClaim := { program := "ytggiajjnfldkgaa", sum := "c61a896da821ba7adad623cbea0f14c04f3f0259913091d0f735e6fadd69c31e", func := "loop.example/g00294/laws.FnExactCauchy", spec := "fnExactCauchy", unfollowed := true, recurses := true, apart := false, narrowed := true }
def FnExactCauchyUptoSaid : Prop := fnExactCauchyUptoRow.holds Try.pinned (OpenSpec.upto fnExactCauchySpec)

/-- 'laws.FnExactTransposed', WHERE WHAT IT READS IS OF BULK AT MOST 1048576: true; the input reads as it did. -/
def fnExactTransposedUptoRow : OpenClaim := { program := "ytggiajjnfldkgaa", sum := "c61a896da821ba7adad623cbea0f14c04f3f0259913091d0f735e6fadd69c31e", func := "loop.example/g00294/laws.FnExactTransposed", spec := "fnExactTransposed", unfollowed := true, recurses := true, apart := false, narrowed := true }
def FnExactTransposedUptoSaid : Prop := fnExactTransposedUptoRow.holds Try.pinned (OpenSpec.upto fnExactTransposedSpec)

/-- 'laws.FnExactCodeMatrix', WHERE WHAT IT READS IS OF BULK AT MOST 1048576: true; the input reads as it did. -/
def fnExactCodeMatrixUptoRow : OpenClaim := { program := "ytggiajjnfldkgaa", sum := "c61a896da821ba7adad623cbea0f14c04f3f0259913091d0f735e6fadd69c31e", func := "loop.example/g00294/laws.FnExactCodeMatrix", spec := "fnExactCodeMatrix", unfollowed := true, recurses := true, apart := false, narrowed := true }
def FnExactCodeMatrixUptoSaid : Prop := fnExactCodeMatrixUptoRow.holds Try.pinned (OpenSpec.upto fnExactCodeMatrixSpec)

/-- 'laws.FnExactAddStripes', WHERE WHAT IT READS IS OF BULK AT MOST 1048576: true; the input reads as it did. -/
def fnExactAddStripesUptoRow : OpenClaim := { program := "ytggiajjnfldkgaa", sum := "c61a896da821ba7adad623cbea0f14c04f3f0259913091d0f735e6fadd69c31e", func := "loop.example/g00294/laws.FnExactAddStripes", spec := "fnExactAddStripes", unfollowed := true, recurses := true, apart := false, narrowed := true }
def FnExactAddStripesUptoSaid : Prop := fnExactAddStripesUptoRow.holds Try.pinned (OpenSpec.upto fnExactAddStripesSpec)

/-- 'laws.FnExactSplitText', WHERE WHAT IT READS IS OF BULK AT MOST 1048576: true; the input reads as it did. -/
def fnExactSplitTextUptoRow : OpenClaim := { program := "ytggiajjnfldkgaa", sum := "c61a896da821ba7adad623cbea0f14c04f3f0259913091d0f735e6fadd69c31e", func := "loop.example/g00294/laws.FnExactSplitText", spec := "fnExactSplitText", inPlace := ["internal/abi.NoEscape", "internal/bytealg.MakeNoZero"], apart := false, narrowed := true }
def FnExactSplitTextUptoSaid : Prop := fnExactSplitTextUptoRow.holds Try.pinned (OpenSpec.upto fnExactSplitTextSpec)

/-- 'laws.FnExactMendLocal', WHERE WHAT IT READS IS OF BULK AT MOST 1048576: true; the input reads as it did. -/
def fnExactMendLocalUptoRow : OpenClaim := { program := "ytggiajjnfldkgaa", sum := "c61a896da821ba7adad623cbea0f14c04f3f0259913091d0f735e6fadd69c31e", func := "loop.example/g00294/laws.FnExactMendLocal", spec := "fnExactMendLocal", unfollowed := true, recurses := true, apart := false, narrowed := true }
def FnExactMendLocalUptoSaid : Prop := fnExactMendLocalUptoRow.holds Try.pinned (OpenSpec.upto fnExactMendLocalSpec)

/-- 'laws.FnExactPartOf', WHERE WHAT IT READS IS OF BULK AT MOST 1048576: true; the input reads as it did. -/
def fnExactPartOfUptoRow : OpenClaim := { program := "ytggiajjnfldkgaa", sum := "c61a896da821ba7adad623cbea0f14c04f3f0259913091d0f735e6fadd69c31e", func := "loop.example/g00294/laws.FnExactPartOf", spec := "fnExactPartOf", unfollowed := true, recurses := true, apart := false, narrowed := true }
def FnExactPartOfUptoSaid : Prop := fnExactPartOfUptoRow.holds Try.pinned (OpenSpec.upto fnExactPartOfSpec)

end Rows
end Go.Proofs.Ytggiajjnfldkgaa
