/-
  No cell of these rows narrows 'for every input' (looked for: loops, veiled, ifaces, maps, wideKeys, modest, calm, conditions, laid).
  DERIVED. THE GIVEN ROWS OF THIS SEAT. 12 by the template 'for every input the law returns true; each argument reads behind the call as it read before'; 0 by the template 'total and deterministic' (their statements: YtolpnmijbhbdjaaTotals.lean).
  GIVEN WITH THE SEED: the statements are not yours to turn. If you find one false, say at which input.
  Laid BY PROGRAM, IN A SANDBOX (cutbox-rows.mjs): the forced cells as the released guide's own fill.sh prints them over the translation 9a551d96c4868e10… (all of the seat's roots in one cut). By AI agents, Wed Nov 11 2026. No macro, syntax, notation, axiom, sorry.
-/
import Derived.Test.YtolpnmijbhbdjaaChecked
import GoSem.Claim
import GoSem.ClaimJoined
import GoSem.ClaimMapViews
import Derived.JoinedTies
import Derived.KernelRfl
namespace Go.Proofs.Ytolpnmijbhbdjaa
/- THE CELL 'sum', in the pinned program and in every row, IS THE sha256 OF THE DUMP (.gsa) THAT YtolpnmijbhbdjaaProg.lean LOADS. Nothing in Lean hashes anything: it is a label: what it is worth is what the hold of that sum in a sandbox is worth. -/
noncomputable def Try.pinned : Pinned := { name := "ytolpnmijbhbdjaa", sum := "9a551d96c4868e101db6fdeda0da1a03df9fa67caf32b1c93b022c472946ce01", checked := Try.checked }
namespace Rows
def none {H : Type} : Left H := { results := [], args := [] }

/-- 'laws.FnExactConstants': WHATEVER THE INPUT: true; the input reads as it did. -/
def fnExactConstantsSpec : ChangeSpec := { name := "fnExactConstants", fn := fun _ => fun
  | [] => { results := [.lit (.bool true)], args := [] }
  | _ => none }
def fnExactConstantsRow : OpenClaim := { program := "ytolpnmijbhbdjaa", sum := "9a551d96c4868e101db6fdeda0da1a03df9fa67caf32b1c93b022c472946ce01", func := "loop.example/g00294/laws.FnExactConstants", spec := "fnExactConstants", apart := false }
def FnExactConstantsSaid : Prop := fnExactConstantsRow.holds Try.pinned (OpenSpec.ofChange fnExactConstantsSpec)

/-- ITS FALSE NEIGHBOUR: 'it returns false'. Refute it at one input. -/
def fnExactConstantsWrong : ChangeSpec := { name := "fnExactConstants", fn := fun _ => fun
  | [] => { results := [.lit (.bool false)], args := [] }
  | _ => none }
def FnExactConstantsWrongFalsely : Prop := fnExactConstantsRow.holds Try.pinned (OpenSpec.ofChange fnExactConstantsWrong)

/-- 'laws.FnExactGoodShape': WHATEVER THE INPUT: true; the input reads as it did. -/
def fnExactGoodShapeSpec : ChangeSpec := { name := "fnExactGoodShape", fn := fun _ => fun
  | [d1, d2] => { results := [.lit (.bool true)], args := [d1, d2] }
  | _ => none }
def fnExactGoodShapeRow : OpenClaim := { program := "ytolpnmijbhbdjaa", sum := "9a551d96c4868e101db6fdeda0da1a03df9fa67caf32b1c93b022c472946ce01", func := "loop.example/g00294/laws.FnExactGoodShape", spec := "fnExactGoodShape", apart := false }
def FnExactGoodShapeSaid : Prop := fnExactGoodShapeRow.holds Try.pinned (OpenSpec.ofChange fnExactGoodShapeSpec)

/-- ITS FALSE NEIGHBOUR: 'it returns false'. Refute it at one input. -/
def fnExactGoodShapeWrong : ChangeSpec := { name := "fnExactGoodShape", fn := fun _ => fun
  | [d1, d2] => { results := [.lit (.bool false)], args := [d1, d2] }
  | _ => none }
def FnExactGoodShapeWrongFalsely : Prop := fnExactGoodShapeRow.holds Try.pinned (OpenSpec.ofChange fnExactGoodShapeWrong)

/-- 'laws.FnExactGoodMsr': WHATEVER THE INPUT: true; the input reads as it did. -/
def fnExactGoodMsrSpec : ChangeSpec := { name := "fnExactGoodMsr", fn := fun _ => fun
  | [d] => { results := [.lit (.bool true)], args := [d] }
  | _ => none }
def fnExactGoodMsrRow : OpenClaim := { program := "ytolpnmijbhbdjaa", sum := "9a551d96c4868e101db6fdeda0da1a03df9fa67caf32b1c93b022c472946ce01", func := "loop.example/g00294/laws.FnExactGoodMsr", spec := "fnExactGoodMsr", apart := false }
def FnExactGoodMsrSaid : Prop := fnExactGoodMsrRow.holds Try.pinned (OpenSpec.ofChange fnExactGoodMsrSpec)

/-- ITS FALSE NEIGHBOUR: 'it returns false'. Refute it at one input. -/
def fnExactGoodMsrWrong : ChangeSpec := { name := "fnExactGoodMsr", fn := fun _ => fun
  | [d] => { results := [.lit (.bool false)], args := [d] }
  | _ => none }
def FnExactGoodMsrWrongFalsely : Prop := fnExactGoodMsrRow.holds Try.pinned (OpenSpec.ofChange fnExactGoodMsrWrong)

/-- 'laws.FnExactGoodLocal': WHATEVER THE INPUT: true; the input reads as it did. -/
def fnExactGoodLocalSpec : ChangeSpec := { name := "fnExactGoodLocal", fn := fun _ => fun
  | [d] => { results := [.lit (.bool true)], args := [d] }
  | _ => none }
def fnExactGoodLocalRow : OpenClaim := { program := "ytolpnmijbhbdjaa", sum := "9a551d96c4868e101db6fdeda0da1a03df9fa67caf32b1c93b022c472946ce01", func := "loop.example/g00294/laws.FnExactGoodLocal", spec := "fnExactGoodLocal", apart := false }
def FnExactGoodLocalSaid : Prop := fnExactGoodLocalRow.holds Try.pinned (OpenSpec.ofChange fnExactGoodLocalSpec)

/-- ITS FALSE NEIGHBOUR: 'it returns false'. Refute it at one input. -/
def fnExactGoodLocalWrong : ChangeSpec := { name := "fnExactGoodLocal", fn := fun _ => fun
  | [d] => { results := [.lit (.bool false)], args := [d] }
  | _ => none }
def FnExactGoodLocalWrongFalsely : Prop := fnExactGoodLocalRow.holds Try.pinned (OpenSpec.ofChange fnExactGoodLocalWrong)

/-- 'laws.FnExactMsrSizes': WHATEVER THE INPUT: true; the input reads as it did. -/
def fnExactMsrSizesSpec : ChangeSpec := { name := "fnExactMsrSizes", fn := fun _ => fun
  | [d] => { results := [.lit (.bool true)], args := [d] }
  | _ => none }
def fnExactMsrSizesRow : OpenClaim := { program := "ytolpnmijbhbdjaa", sum := "9a551d96c4868e101db6fdeda0da1a03df9fa67caf32b1c93b022c472946ce01", func := "loop.example/g00294/laws.FnExactMsrSizes", spec := "fnExactMsrSizes", apart := false }
def FnExactMsrSizesSaid : Prop := fnExactMsrSizesRow.holds Try.pinned (OpenSpec.ofChange fnExactMsrSizesSpec)

/-- ITS FALSE NEIGHBOUR: 'it returns false'. Refute it at one input. -/
def fnExactMsrSizesWrong : ChangeSpec := { name := "fnExactMsrSizes", fn := fun _ => fun
  | [d] => { results := [.lit (.bool false)], args := [d] }
  | _ => none }
def FnExactMsrSizesWrongFalsely : Prop := fnExactMsrSizesRow.holds Try.pinned (OpenSpec.ofChange fnExactMsrSizesWrong)

/-- 'laws.FnExactTimes': WHATEVER THE INPUT: true; the input reads as it did. -/
def fnExactTimesSpec : ChangeSpec := { name := "fnExactTimes", fn := fun _ => fun
  | [d1, d2] => { results := [.lit (.bool true)], args := [d1, d2] }
  | _ => none }
def fnExactTimesRow : OpenClaim := { program := "ytolpnmijbhbdjaa", sum := "9a551d96c4868e101db6fdeda0da1a03df9fa67caf32b1c93b022c472946ce01", func := "loop.example/g00294/laws.FnExactTimes", spec := "fnExactTimes", apart := false }
def FnExactTimesSaid : Prop := fnExactTimesRow.holds Try.pinned (OpenSpec.ofChange fnExactTimesSpec)

/-- ITS FALSE NEIGHBOUR: 'it returns false'. Refute it at one input. -/
def fnExactTimesWrong : ChangeSpec := { name := "fnExactTimes", fn := fun _ => fun
  | [d1, d2] => { results := [.lit (.bool false)], args := [d1, d2] }
  | _ => none }
def FnExactTimesWrongFalsely : Prop := fnExactTimesRow.holds Try.pinned (OpenSpec.ofChange fnExactTimesWrong)

/-- 'laws.FnExactGroupOf': WHATEVER THE INPUT: true; the input reads as it did. -/
def fnExactGroupOfSpec : ChangeSpec := { name := "fnExactGroupOf", fn := fun _ => fun
  | [d1, d2] => { results := [.lit (.bool true)], args := [d1, d2] }
  | _ => none }
def fnExactGroupOfRow : OpenClaim := { program := "ytolpnmijbhbdjaa", sum := "9a551d96c4868e101db6fdeda0da1a03df9fa67caf32b1c93b022c472946ce01", func := "loop.example/g00294/laws.FnExactGroupOf", spec := "fnExactGroupOf", apart := false }
def FnExactGroupOfSaid : Prop := fnExactGroupOfRow.holds Try.pinned (OpenSpec.ofChange fnExactGroupOfSpec)

/-- ITS FALSE NEIGHBOUR: 'it returns false'. Refute it at one input. -/
def fnExactGroupOfWrong : ChangeSpec := { name := "fnExactGroupOf", fn := fun _ => fun
  | [d1, d2] => { results := [.lit (.bool false)], args := [d1, d2] }
  | _ => none }
def FnExactGroupOfWrongFalsely : Prop := fnExactGroupOfRow.holds Try.pinned (OpenSpec.ofChange fnExactGroupOfWrong)

/-- 'laws.FnExactLogOf': WHATEVER THE INPUT: true; the input reads as it did. -/
def fnExactLogOfSpec : ChangeSpec := { name := "fnExactLogOf", fn := fun _ => fun
  | [d] => { results := [.lit (.bool true)], args := [d] }
  | _ => none }
def fnExactLogOfRow : OpenClaim := { program := "ytolpnmijbhbdjaa", sum := "9a551d96c4868e101db6fdeda0da1a03df9fa67caf32b1c93b022c472946ce01", func := "loop.example/g00294/laws.FnExactLogOf", spec := "fnExactLogOf", apart := false }
def FnExactLogOfSaid : Prop := fnExactLogOfRow.holds Try.pinned (OpenSpec.ofChange fnExactLogOfSpec)

/-- ITS FALSE NEIGHBOUR: 'it returns false'. Refute it at one input. -/
def fnExactLogOfWrong : ChangeSpec := { name := "fnExactLogOf", fn := fun _ => fun
  | [d] => { results := [.lit (.bool false)], args := [d] }
  | _ => none }
def FnExactLogOfWrongFalsely : Prop := fnExactLogOfRow.holds Try.pinned (OpenSpec.ofChange fnExactLogOfWrong)

/-- 'laws.FnExactInverse': WHATEVER THE INPUT: true; the input reads as it did. -/
def fnExactInverseSpec : ChangeSpec := { name := "fnExactInverse", fn := fun _ => fun
  | [d] => { results := [.lit (.bool true)], args := [d] }
  | _ => none }
def fnExactInverseRow : OpenClaim := { program := "ytolpnmijbhbdjaa", sum := "9a551d96c4868e101db6fdeda0da1a03df9fa67caf32b1c93b022c472946ce01", func := "loop.example/g00294/laws.FnExactInverse", spec := "fnExactInverse", apart := false }
def FnExactInverseSaid : Prop := fnExactInverseRow.holds Try.pinned (OpenSpec.ofChange fnExactInverseSpec)

/-- ITS FALSE NEIGHBOUR: 'it returns false'. Refute it at one input. -/
def fnExactInverseWrong : ChangeSpec := { name := "fnExactInverse", fn := fun _ => fun
  | [d] => { results := [.lit (.bool false)], args := [d] }
  | _ => none }
def FnExactInverseWrongFalsely : Prop := fnExactInverseRow.holds Try.pinned (OpenSpec.ofChange fnExactInverseWrong)

/-- 'laws.FnExactPower': WHATEVER THE INPUT: true; the input reads as it did. -/
def fnExactPowerSpec : ChangeSpec := { name := "fnExactPower", fn := fun _ => fun
  | [d1, d2] => { results := [.lit (.bool true)], args := [d1, d2] }
  | _ => none }
def fnExactPowerRow : OpenClaim := { program := "ytolpnmijbhbdjaa", sum := "9a551d96c4868e101db6fdeda0da1a03df9fa67caf32b1c93b022c472946ce01", func := "loop.example/g00294/laws.FnExactPower", spec := "fnExactPower", apart := false }
def FnExactPowerSaid : Prop := fnExactPowerRow.holds Try.pinned (OpenSpec.ofChange fnExactPowerSpec)

/-- ITS FALSE NEIGHBOUR: 'it returns false'. Refute it at one input. -/
def fnExactPowerWrong : ChangeSpec := { name := "fnExactPower", fn := fun _ => fun
  | [d1, d2] => { results := [.lit (.bool false)], args := [d1, d2] }
  | _ => none }
def FnExactPowerWrongFalsely : Prop := fnExactPowerRow.holds Try.pinned (OpenSpec.ofChange fnExactPowerWrong)

/-- 'laws.FnExactAddVectors': WHATEVER THE INPUT: true; the input reads as it did. -/
def fnExactAddVectorsSpec : ChangeSpec := { name := "fnExactAddVectors", fn := fun _ => fun
  | [d1, d2] => { results := [.lit (.bool true)], args := [d1, d2] }
  | _ => none }
def fnExactAddVectorsRow : OpenClaim := { program := "ytolpnmijbhbdjaa", sum := "9a551d96c4868e101db6fdeda0da1a03df9fa67caf32b1c93b022c472946ce01", func := "loop.example/g00294/laws.FnExactAddVectors", spec := "fnExactAddVectors", apart := false }
def FnExactAddVectorsSaid : Prop := fnExactAddVectorsRow.holds Try.pinned (OpenSpec.ofChange fnExactAddVectorsSpec)

/-- ITS FALSE NEIGHBOUR: 'it returns false'. Refute it at one input. -/
def fnExactAddVectorsWrong : ChangeSpec := { name := "fnExactAddVectors", fn := fun _ => fun
  | [d1, d2] => { results := [.lit (.bool false)], args := [d1, d2] }
  | _ => none }
def FnExactAddVectorsWrongFalsely : Prop := fnExactAddVectorsRow.holds Try.pinned (OpenSpec.ofChange fnExactAddVectorsWrong)

/-- 'laws.FnExactDotVectors': WHATEVER THE INPUT: true; the input reads as it did. -/
def fnExactDotVectorsSpec : ChangeSpec := { name := "fnExactDotVectors", fn := fun _ => fun
  | [d1, d2] => { results := [.lit (.bool true)], args := [d1, d2] }
  | _ => none }
def fnExactDotVectorsRow : OpenClaim := { program := "ytolpnmijbhbdjaa", sum := "9a551d96c4868e101db6fdeda0da1a03df9fa67caf32b1c93b022c472946ce01", func := "loop.example/g00294/laws.FnExactDotVectors", spec := "fnExactDotVectors", apart := false }
def FnExactDotVectorsSaid : Prop := fnExactDotVectorsRow.holds Try.pinned (OpenSpec.ofChange fnExactDotVectorsSpec)

/-- ITS FALSE NEIGHBOUR: 'it returns false'. Refute it at one input. -/
def fnExactDotVectorsWrong : ChangeSpec := { name := "fnExactDotVectors", fn := fun _ => fun
  | [d1, d2] => { results := [.lit (.bool false)], args := [d1, d2] }
  | _ => none }
def FnExactDotVectorsWrongFalsely : Prop := fnExactDotVectorsRow.holds Try.pinned (OpenSpec.ofChange fnExactDotVectorsWrong)

/- THE SECOND FORM. 'bulk': how many values and letters a reading holds, each counted each time it is reached (what is shared counts as often as it is met; a slice's spare places count too). A statement '..UptoSaid' is the law's where the arguments, and the package variables that the reading takes, are together of bulk at most 1048576: NARROWER than '..Said'. Prove '..Said' where nothing that the law and all that it calls make is longer than what came in: it says more and counts as full. Else prove '..UptoSaid'. A law counts once. -/
mutual
def uptoBulk {H : Type} : DataW H → Nat
  | .lit (.string bytes) => bytes.length + 1
  | .lit _ => 1
  | .nil => 1
  | .ptr d => uptoBulk d + 1
  | .slice elems spare => uptoBulkAll elems + uptoBulkAll spare + 1
  | .agg parts => uptoBulkAll parts + 1
  | .iface _ d => uptoBulk d + 1
  | .map entries => uptoBulkEntries entries + 1
  | .held _ => 1
def uptoBulkAll {H : Type} : List (DataW H) → Nat
  | [] => 0
  | d :: r => uptoBulk d + uptoBulkAll r
def uptoBulkEntries {H : Type} : List (Lit × DataW H) → Nat
  | [] => 0
  | x :: r => uptoBulkEntry x + uptoBulkEntries r
def uptoBulkEntry {H : Type} : Lit × DataW H → Nat
  | (.string bytes, d) => bytes.length + uptoBulk d + 1
  | (_, d) => uptoBulk d + 1
 end
def uptoSmall : (H : Type) → List (DataW H) → Bool := fun _ ds => decide (uptoBulkAll ds ≤ 1048576)
def OpenSpec.upto (s : _root_.Go.ChangeSpec) : _root_.Go.OpenSpec := { _root_.Go.OpenSpec.ofChange s with cond := some uptoSmall }

/-- 'laws.FnExactConstants', WHERE WHAT IT READS IS OF BULK AT MOST 1048576: true; the input reads as it did. -/
def fnExactConstantsUptoRow : OpenClaim := { program := "ytolpnmijbhbdjaa", sum := "9a551d96c4868e101db6fdeda0da1a03df9fa67caf32b1c93b022c472946ce01", func := "loop.example/g00294/laws.FnExactConstants", spec := "fnExactConstants", apart := false, narrowed := true }
def FnExactConstantsUptoSaid : Prop := fnExactConstantsUptoRow.holds Try.pinned (OpenSpec.upto fnExactConstantsSpec)

/-- 'laws.FnExactGoodShape', WHERE WHAT IT READS IS OF BULK AT MOST 1048576: true; the input reads as it did. -/
def fnExactGoodShapeUptoRow : OpenClaim := { program := "ytolpnmijbhbdjaa", sum := "9a551d96c4868e101db6fdeda0da1a03df9fa67caf32b1c93b022c472946ce01", func := "loop.example/g00294/laws.FnExactGoodShape", spec := "fnExactGoodShape", apart := false, narrowed := true }
def FnExactGoodShapeUptoSaid : Prop := fnExactGoodShapeUptoRow.holds Try.pinned (OpenSpec.upto fnExactGoodShapeSpec)

/-- 'laws.FnExactGoodMsr', WHERE WHAT IT READS IS OF BULK AT MOST 1048576: true; the input reads as it did. -/
def fnExactGoodMsrUptoRow : OpenClaim := { program := "ytolpnmijbhbdjaa", sum := "9a551d96c4868e101db6fdeda0da1a03df9fa67caf32b1c93b022c472946ce01", func := "loop.example/g00294/laws.FnExactGoodMsr", spec := "fnExactGoodMsr", apart := false, narrowed := true }
def FnExactGoodMsrUptoSaid : Prop := fnExactGoodMsrUptoRow.holds Try.pinned (OpenSpec.upto fnExactGoodMsrSpec)

/-- 'laws.FnExactGoodLocal', WHERE WHAT IT READS IS OF BULK AT MOST 1048576: true; the input reads as it did. -/
def fnExactGoodLocalUptoRow : OpenClaim := { program := "ytolpnmijbhbdjaa", sum := "9a551d96c4868e101db6fdeda0da1a03df9fa67caf32b1c93b022c472946ce01", func := "loop.example/g00294/laws.FnExactGoodLocal", spec := "fnExactGoodLocal", apart := false, narrowed := true }
def FnExactGoodLocalUptoSaid : Prop := fnExactGoodLocalUptoRow.holds Try.pinned (OpenSpec.upto fnExactGoodLocalSpec)

/-- 'laws.FnExactMsrSizes', WHERE WHAT IT READS IS OF BULK AT MOST 1048576: true; the input reads as it did. -/
def fnExactMsrSizesUptoRow : OpenClaim := { program := "ytolpnmijbhbdjaa", sum := "9a551d96c4868e101db6fdeda0da1a03df9fa67caf32b1c93b022c472946ce01", func := "loop.example/g00294/laws.FnExactMsrSizes", spec := "fnExactMsrSizes", apart := false, narrowed := true }
def FnExactMsrSizesUptoSaid : Prop := fnExactMsrSizesUptoRow.holds Try.pinned (OpenSpec.upto fnExactMsrSizesSpec)

/-- 'laws.FnExactTimes', WHERE WHAT IT READS IS OF BULK AT MOST 1048576: true; the input reads as it did. -/
def fnExactTimesUptoRow : OpenClaim := { program := "ytolpnmijbhbdjaa", sum := "9a551d96c4868e101db6fdeda0da1a03df9fa67caf32b1c93b022c472946ce01", func := "loop.example/g00294/laws.FnExactTimes", spec := "fnExactTimes", apart := false, narrowed := true }
def FnExactTimesUptoSaid : Prop := fnExactTimesUptoRow.holds Try.pinned (OpenSpec.upto fnExactTimesSpec)

/-- 'laws.FnExactGroupOf', WHERE WHAT IT READS IS OF BULK AT MOST 1048576: true; the input reads as it did. -/
def fnExactGroupOfUptoRow : OpenClaim := { program := "ytolpnmijbhbdjaa", sum := "9a551d96c4868e101db6fdeda0da1a03df9fa67caf32b1c93b022c472946ce01", func := "loop.example/g00294/laws.FnExactGroupOf", spec := "fnExactGroupOf", apart := false, narrowed := true }
def FnExactGroupOfUptoSaid : Prop := fnExactGroupOfUptoRow.holds Try.pinned (OpenSpec.upto fnExactGroupOfSpec)

/-- 'laws.FnExactLogOf', WHERE WHAT IT READS IS OF BULK AT MOST 1048576: true; the input reads as it did. -/
def fnExactLogOfUptoRow : OpenClaim := { program := "ytolpnmijbhbdjaa", sum := "9a551d96c4868e101db6fdeda0da1a03df9fa67caf32b1c93b022c472946ce01", func := "loop.example/g00294/laws.FnExactLogOf", spec := "fnExactLogOf", apart := false, narrowed := true }
def FnExactLogOfUptoSaid : Prop := fnExactLogOfUptoRow.holds Try.pinned (OpenSpec.upto fnExactLogOfSpec)

/-- 'laws.FnExactInverse', WHERE WHAT IT READS IS OF BULK AT MOST 1048576: true; the input reads as it did. -/
def fnExactInverseUptoRow : OpenClaim := { program := "ytolpnmijbhbdjaa", sum := "9a551d96c4868e101db6fdeda0da1a03df9fa67caf32b1c93b022c472946ce01", func := "loop.example/g00294/laws.FnExactInverse", spec := "fnExactInverse", apart := false, narrowed := true }
def FnExactInverseUptoSaid : Prop := fnExactInverseUptoRow.holds Try.pinned (OpenSpec.upto fnExactInverseSpec)

/-- 'laws.FnExactPower', WHERE WHAT IT READS IS OF BULK AT MOST 1048576: true; the input reads as it did. -/
def fnExactPowerUptoRow : OpenClaim := { program := "ytolpnmijbhbdjaa", sum := "9a551d96c4868e101db6fdeda0da1a03df9fa67caf32b1c93b022c472946ce01", func := "loop.example/g00294/laws.FnExactPower", spec := "fnExactPower", apart := false, narrowed := true }
def FnExactPowerUptoSaid : Prop := fnExactPowerUptoRow.holds Try.pinned (OpenSpec.upto fnExactPowerSpec)

/-- 'laws.FnExactAddVectors', WHERE WHAT IT READS IS OF BULK AT MOST 1048576: true; the input reads as it did. -/
def fnExactAddVectorsUptoRow : OpenClaim := { program := "ytolpnmijbhbdjaa", sum := "9a551d96c4868e101db6fdeda0da1a03df9fa67caf32b1c93b022c472946ce01", func := "loop.example/g00294/laws.FnExactAddVectors", spec := "fnExactAddVectors", apart := false, narrowed := true }
def FnExactAddVectorsUptoSaid : Prop := fnExactAddVectorsUptoRow.holds Try.pinned (OpenSpec.upto fnExactAddVectorsSpec)

/-- 'laws.FnExactDotVectors', WHERE WHAT IT READS IS OF BULK AT MOST 1048576: true; the input reads as it did. -/
def fnExactDotVectorsUptoRow : OpenClaim := { program := "ytolpnmijbhbdjaa", sum := "9a551d96c4868e101db6fdeda0da1a03df9fa67caf32b1c93b022c472946ce01", func := "loop.example/g00294/laws.FnExactDotVectors", spec := "fnExactDotVectors", apart := false, narrowed := true }
def FnExactDotVectorsUptoSaid : Prop := fnExactDotVectorsUptoRow.holds Try.pinned (OpenSpec.upto fnExactDotVectorsSpec)

end Rows
end Go.Proofs.Ytolpnmijbhbdjaa
