/-
  No cell of these rows narrows 'for every input' (looked for: loops, veiled, ifaces, maps, wideKeys, modest, calm, conditions, laid).
  DERIVED. THE GIVEN ROWS OF THIS SEAT. 10 by the template 'for every input the law returns true; each argument reads behind the call as it read before'; 0 by the template 'total and deterministic' (their statements: YtelkciakdhiicaaTotals.lean).
  GIVEN WITH THE SEED: the statements are not yours to turn. If you find one false, say at which input.
  Laid BY PROGRAM, IN A SANDBOX (cutbox-rows.mjs): the forced cells as the released guide's own fill.sh prints them over the translation 09df49cd11b52953… (all of the seat's roots in one cut). By AI agents, Wed Nov 11 2026. No macro, syntax, notation, axiom, sorry.
-/
import Derived.Test.YtelkciakdhiicaaChecked
import GoSem.Claim
import GoSem.ClaimJoined
import GoSem.ClaimMapViews
import Derived.JoinedTies
import Derived.KernelRfl
namespace Go.Proofs.Ytelkciakdhiicaa
/- THE CELL 'sum', in the pinned program and in every row, IS THE sha256 OF THE DUMP (.gsa) THAT YtelkciakdhiicaaProg.lean LOADS. Nothing in Lean hashes anything: it is a label: what it is worth is what the hold of that sum in a sandbox is worth. -/
noncomputable def Try.pinned : Pinned := { name := "ytelkciakdhiicaa", sum := "09df49cd11b52953e79686f5d01217495b5a5288b116443217877f8e3fffab33", checked := Try.checked }
namespace Rows
def none {H : Type} : Left H := { results := [], args := [] }

/-- 'laws.FnExactGoodStripe': WHATEVER THE INPUT: true; the input reads as it did. -/
def fnExactGoodStripeSpec : ChangeSpec := { name := "fnExactGoodStripe", fn := fun _ => fun
  | [d] => { results := [.lit (.bool true)], args := [d] }
  | _ => none }
def fnExactGoodStripeRow : OpenClaim := { program := "ytelkciakdhiicaa", sum := "09df49cd11b52953e79686f5d01217495b5a5288b116443217877f8e3fffab33", func := "loop.example/g00294/laws.FnExactGoodStripe", spec := "fnExactGoodStripe", unfollowed := true, recurses := true, apart := false }
def FnExactGoodStripeSaid : Prop := fnExactGoodStripeRow.holds Try.pinned (OpenSpec.ofChange fnExactGoodStripeSpec)

/-- ITS FALSE NEIGHBOUR: 'it returns false'. Refute it at one input. -/
def fnExactGoodStripeWrong : ChangeSpec := { name := "fnExactGoodStripe", fn := fun _ => fun
  | [d] => { results := [.lit (.bool false)], args := [d] }
  | _ => none }
def FnExactGoodStripeWrongFalsely : Prop := fnExactGoodStripeRow.holds Try.pinned (OpenSpec.ofChange fnExactGoodStripeWrong)

/-- 'laws.FnExactAddShares': WHATEVER THE INPUT: true; the input reads as it did. -/
def fnExactAddSharesSpec : ChangeSpec := { name := "fnExactAddShares", fn := fun _ => fun
  | [d1, d2] => { results := [.lit (.bool true)], args := [d1, d2] }
  | _ => none }
def fnExactAddSharesRow : OpenClaim := { program := "ytelkciakdhiicaa", sum := "09df49cd11b52953e79686f5d01217495b5a5288b116443217877f8e3fffab33", func := "loop.example/g00294/laws.FnExactAddShares", spec := "fnExactAddShares", unfollowed := true, recurses := true, apart := false }
def FnExactAddSharesSaid : Prop := fnExactAddSharesRow.holds Try.pinned (OpenSpec.ofChange fnExactAddSharesSpec)

/-- ITS FALSE NEIGHBOUR: 'it returns false'. Refute it at one input. -/
def fnExactAddSharesWrong : ChangeSpec := { name := "fnExactAddShares", fn := fun _ => fun
  | [d1, d2] => { results := [.lit (.bool false)], args := [d1, d2] }
  | _ => none }
def FnExactAddSharesWrongFalsely : Prop := fnExactAddSharesRow.holds Try.pinned (OpenSpec.ofChange fnExactAddSharesWrong)

/-- 'laws.FnField': WHATEVER THE INPUT: true; the input reads as it did. -/
def fnFieldSpec : ChangeSpec := { name := "fnField", fn := fun _ => fun
  | [d1, d2] => { results := [.lit (.bool true)], args := [d1, d2] }
  | _ => none }
def fnFieldRow : OpenClaim := { program := "ytelkciakdhiicaa", sum := "09df49cd11b52953e79686f5d01217495b5a5288b116443217877f8e3fffab33", func := "loop.example/g00294/laws.FnField", spec := "fnField", apart := false }
def FnFieldSaid : Prop := fnFieldRow.holds Try.pinned (OpenSpec.ofChange fnFieldSpec)

/-- ITS FALSE NEIGHBOUR: 'it returns false'. Refute it at one input. -/
def fnFieldWrong : ChangeSpec := { name := "fnField", fn := fun _ => fun
  | [d1, d2] => { results := [.lit (.bool false)], args := [d1, d2] }
  | _ => none }
def FnFieldWrongFalsely : Prop := fnFieldRow.holds Try.pinned (OpenSpec.ofChange fnFieldWrong)

/-- 'laws.FnExactJoinShards': WHATEVER THE INPUT: true; the input reads as it did. -/
def fnExactJoinShardsSpec : ChangeSpec := { name := "fnExactJoinShards", fn := fun _ => fun
  | [d1, d2] => { results := [.lit (.bool true)], args := [d1, d2] }
  | _ => none }
def fnExactJoinShardsRow : OpenClaim := { program := "ytelkciakdhiicaa", sum := "09df49cd11b52953e79686f5d01217495b5a5288b116443217877f8e3fffab33", func := "loop.example/g00294/laws.FnExactJoinShards", spec := "fnExactJoinShards", inPlace := ["internal/abi.NoEscape", "internal/bytealg.MakeNoZero"], unfollowed := true, recurses := true, apart := false }
def FnExactJoinShardsSaid : Prop := fnExactJoinShardsRow.holds Try.pinned (OpenSpec.ofChange fnExactJoinShardsSpec)

/-- ITS FALSE NEIGHBOUR: 'it returns false'. Refute it at one input. -/
def fnExactJoinShardsWrong : ChangeSpec := { name := "fnExactJoinShards", fn := fun _ => fun
  | [d1, d2] => { results := [.lit (.bool false)], args := [d1, d2] }
  | _ => none }
def FnExactJoinShardsWrongFalsely : Prop := fnExactJoinShardsRow.holds Try.pinned (OpenSpec.ofChange fnExactJoinShardsWrong)

/-- 'laws.FnExactMessageOf': WHATEVER THE INPUT: true; the input reads as it did. -/
def fnExactMessageOfSpec : ChangeSpec := { name := "fnExactMessageOf", fn := fun _ => fun
  | [d1, d2] => { results := [.lit (.bool true)], args := [d1, d2] }
  | _ => none }
def fnExactMessageOfRow : OpenClaim := { program := "ytelkciakdhiicaa", sum := "09df49cd11b52953e79686f5d01217495b5a5288b116443217877f8e3fffab33", func := "loop.example/g00294/laws.FnExactMessageOf", spec := "fnExactMessageOf", unfollowed := true, recurses := true, apart := false }
def FnExactMessageOfSaid : Prop := fnExactMessageOfRow.holds Try.pinned (OpenSpec.ofChange fnExactMessageOfSpec)

/-- ITS FALSE NEIGHBOUR: 'it returns false'. Refute it at one input. -/
def fnExactMessageOfWrong : ChangeSpec := { name := "fnExactMessageOf", fn := fun _ => fun
  | [d1, d2] => { results := [.lit (.bool false)], args := [d1, d2] }
  | _ => none }
def FnExactMessageOfWrongFalsely : Prop := fnExactMessageOfRow.holds Try.pinned (OpenSpec.ofChange fnExactMessageOfWrong)

/-- 'laws.FnVectors': WHATEVER THE INPUT: true; the input reads as it did. -/
def fnVectorsSpec : ChangeSpec := { name := "fnVectors", fn := fun _ => fun
  | [d1, d2] => { results := [.lit (.bool true)], args := [d1, d2] }
  | _ => none }
def fnVectorsRow : OpenClaim := { program := "ytelkciakdhiicaa", sum := "09df49cd11b52953e79686f5d01217495b5a5288b116443217877f8e3fffab33", func := "loop.example/g00294/laws.FnVectors", spec := "fnVectors", apart := false }
def FnVectorsSaid : Prop := fnVectorsRow.holds Try.pinned (OpenSpec.ofChange fnVectorsSpec)

/-- ITS FALSE NEIGHBOUR: 'it returns false'. Refute it at one input. -/
def fnVectorsWrong : ChangeSpec := { name := "fnVectors", fn := fun _ => fun
  | [d1, d2] => { results := [.lit (.bool false)], args := [d1, d2] }
  | _ => none }
def FnVectorsWrongFalsely : Prop := fnVectorsRow.holds Try.pinned (OpenSpec.ofChange fnVectorsWrong)

/-- 'laws.FnExactCodeMatrix': WHATEVER THE INPUT: true; the input reads as it did. -/
def fnExactCodeMatrixSpec : ChangeSpec := { name := "fnExactCodeMatrix", fn := fun _ => fun
  | [d1, d2] => { results := [.lit (.bool true)], args := [d1, d2] }
  | _ => none }
def fnExactCodeMatrixRow : OpenClaim := { program := "ytelkciakdhiicaa", sum := "09df49cd11b52953e79686f5d01217495b5a5288b116443217877f8e3fffab33", func := "loop.example/g00294/laws.FnExactCodeMatrix", spec := "fnExactCodeMatrix", unfollowed := true, recurses := true, apart := false }
def FnExactCodeMatrixSaid : Prop := fnExactCodeMatrixRow.holds Try.pinned (OpenSpec.ofChange fnExactCodeMatrixSpec)

/-- ITS FALSE NEIGHBOUR: 'it returns false'. Refute it at one input. -/
def fnExactCodeMatrixWrong : ChangeSpec := { name := "fnExactCodeMatrix", fn := fun _ => fun
  | [d1, d2] => { results := [.lit (.bool false)], args := [d1, d2] }
  | _ => none }
def FnExactCodeMatrixWrongFalsely : Prop := fnExactCodeMatrixRow.holds Try.pinned (OpenSpec.ofChange fnExactCodeMatrixWrong)

/-- 'laws.FnExactAddStripes': WHATEVER THE INPUT: true; the input reads as it did. -/
def fnExactAddStripesSpec : ChangeSpec := { name := "fnExactAddStripes", fn := fun _ => fun
  | [d1, d2] => { results := [.lit (.bool true)], args := [d1, d2] }
  | _ => none }
def fnExactAddStripesRow : OpenClaim := { program := "ytelkciakdhiicaa", sum := "09df49cd11b52953e79686f5d01217495b5a5288b116443217877f8e3fffab33", func := "loop.example/g00294/laws.FnExactAddStripes", spec := "fnExactAddStripes", unfollowed := true, recurses := true, apart := false }
def FnExactAddStripesSaid : Prop := fnExactAddStripesRow.holds Try.pinned (OpenSpec.ofChange fnExactAddStripesSpec)

/-- ITS FALSE NEIGHBOUR: 'it returns false'. Refute it at one input. -/
def fnExactAddStripesWrong : ChangeSpec := { name := "fnExactAddStripes", fn := fun _ => fun
  | [d1, d2] => { results := [.lit (.bool false)], args := [d1, d2] }
  | _ => none }
def FnExactAddStripesWrongFalsely : Prop := fnExactAddStripesRow.holds Try.pinned (OpenSpec.ofChange fnExactAddStripesWrong)

/-- 'laws.FnExactSplitText': WHATEVER THE INPUT: true; the input reads as it did. -/
def fnExactSplitTextSpec : ChangeSpec := { name := "fnExactSplitText", fn := fun _ => fun
  | [d1, d2] => { results := [.lit (.bool true)], args := [d1, d2] }
  | _ => none }
def fnExactSplitTextRow : OpenClaim := { program := "ytelkciakdhiicaa", sum := "09df49cd11b52953e79686f5d01217495b5a5288b116443217877f8e3fffab33", func := "loop.example/g00294/laws.FnExactSplitText", spec := "fnExactSplitText", inPlace := ["internal/abi.NoEscape", "internal/bytealg.MakeNoZero"], apart := false }
def FnExactSplitTextSaid : Prop := fnExactSplitTextRow.holds Try.pinned (OpenSpec.ofChange fnExactSplitTextSpec)

/-- ITS FALSE NEIGHBOUR: 'it returns false'. Refute it at one input. -/
def fnExactSplitTextWrong : ChangeSpec := { name := "fnExactSplitText", fn := fun _ => fun
  | [d1, d2] => { results := [.lit (.bool false)], args := [d1, d2] }
  | _ => none }
def FnExactSplitTextWrongFalsely : Prop := fnExactSplitTextRow.holds Try.pinned (OpenSpec.ofChange fnExactSplitTextWrong)

/-- 'laws.FnExactMendLocal': WHATEVER THE INPUT: true; the input reads as it did. -/
def fnExactMendLocalSpec : ChangeSpec := { name := "fnExactMendLocal", fn := fun _ => fun
  | [d1, d2, d3] => { results := [.lit (.bool true)], args := [d1, d2, d3] }
  | _ => none }
def fnExactMendLocalRow : OpenClaim := { program := "ytelkciakdhiicaa", sum := "09df49cd11b52953e79686f5d01217495b5a5288b116443217877f8e3fffab33", func := "loop.example/g00294/laws.FnExactMendLocal", spec := "fnExactMendLocal", unfollowed := true, recurses := true, apart := false }
def FnExactMendLocalSaid : Prop := fnExactMendLocalRow.holds Try.pinned (OpenSpec.ofChange fnExactMendLocalSpec)

/-- ITS FALSE NEIGHBOUR: 'it returns false'. Refute it at one input. -/
def fnExactMendLocalWrong : ChangeSpec := { name := "fnExactMendLocal", fn := fun _ => fun
  | [d1, d2, d3] => { results := [.lit (.bool false)], args := [d1, d2, d3] }
  | _ => none }
def FnExactMendLocalWrongFalsely : Prop := fnExactMendLocalRow.holds Try.pinned (OpenSpec.ofChange fnExactMendLocalWrong)

/- THE SECOND FORM. 'bulk': how many values and letters a reading holds, each counted each time it is reached (what is shared counts as often as it is met; a slice's spare places count too). A statement '..UptoSaid' is the law's where the arguments, and the package variables that the reading takes, are together of bulk at most 1048576: NARROWER than '..Said'. Prove '..Said' where nothing that the law and all that it calls make is longer than what came in: it says more and counts as full. Else prove '..UptoSaid'. A law counts once. -/
mutual
def uptoBulk {H : Type} : DataW H → Nat
  | .lit (.string bytes) => bytes.length + 1
  | .lit _ => 1
  | .nil => 1
  | .ptr d => uptoBulk d + 1
  | .slice elems spare => uptoBulkAll elems + uptoBulkAll spare + 1
  | .agg parts => uptoBulkAll parts + 1
  | .iface _ d => uptoBulk d + 1
  | .map entries => uptoBulkEntries entries + 1
  | .held _ => 1
def uptoBulkAll {H : Type} : List (DataW H) → Nat
  | [] => 0
  | d :: r => uptoBulk d + uptoBulkAll r
def uptoBulkEntries {H : Type} : List (Lit × DataW H) → Nat
  | [] => 0
  | x :: r => uptoBulkEntry x + uptoBulkEntries r
def uptoBulkEntry {H : Type} : Lit × DataW H → Nat
  | (.string bytes, d) => bytes.length + uptoBulk d + 1
  | (_, d) => uptoBulk d + 1
 end
def uptoSmall : (H : Type) → List (DataW H) → Bool := fun _ ds => decide (uptoBulkAll ds ≤ 1048576)
def OpenSpec.upto (s : _root_.Go.ChangeSpec) : _root_.Go.OpenSpec := { _root_.Go.OpenSpec.ofChange s with cond := some uptoSmall }

/-- 'laws.FnExactGoodStripe', WHERE WHAT IT READS IS OF BULK AT MOST 1048576: true; the input reads as it did. -/
def fnExactGoodStripeUptoRow : OpenClaim := { program := "ytelkciakdhiicaa", sum := "09df49cd11b52953e79686f5d01217495b5a5288b116443217877f8e3fffab33", func := "loop.example/g00294/laws.FnExactGoodStripe", spec := "fnExactGoodStripe", unfollowed := true, recurses := true, apart := false, narrowed := true }
def FnExactGoodStripeUptoSaid : Prop := fnExactGoodStripeUptoRow.holds Try.pinned (OpenSpec.upto fnExactGoodStripeSpec)

/-- 'laws.FnExactAddShares', WHERE WHAT IT READS IS OF BULK AT MOST 1048576: true; the input reads as it did. -/
def fnExactAddSharesUptoRow : OpenClaim := { program := "ytelkciakdhiicaa", sum := "09df49cd11b52953e79686f5d01217495b5a5288b116443217877f8e3fffab33", func := "loop.example/g00294/laws.FnExactAddShares", spec := "fnExactAddShares", unfollowed := true, recurses := true, apart := false, narrowed := true }
def FnExactAddSharesUptoSaid : Prop := fnExactAddSharesUptoRow.holds Try.pinned (OpenSpec.upto fnExactAddSharesSpec)

/-- 'laws.FnField', WHERE WHAT IT READS IS OF BULK AT MOST 1048576: true; the input reads as it did. -/
def fnFieldUptoRow : OpenClaim := { program := "ytelkciakdhiicaa", sum := "09df49cd11b52953e79686f5d01217495b5a5288b116443217877f8e3fffab33", func := "loop.example/g00294/laws.FnField", spec := "fnField", apart := false, narrowed := true }
def FnFieldUptoSaid : Prop := fnFieldUptoRow.holds Try.pinned (OpenSpec.upto fnFieldSpec)

/-- 'laws.FnExactJoinShards', WHERE WHAT IT READS IS OF BULK AT MOST 1048576: true; the input reads as it did. -/
def fnExactJoinShardsUptoRow : OpenClaim := { program := "ytelkciakdhiicaa", sum := "09df49cd11b52953e79686f5d01217495b5a5288b116443217877f8e3fffab33", func := "loop.example/g00294/laws.FnExactJoinShards", spec := "fnExactJoinShards", inPlace := ["internal/abi.NoEscape", "internal/bytealg.MakeNoZero"], unfollowed := true, recurses := true, apart := false, narrowed := true }
def FnExactJoinShardsUptoSaid : Prop := fnExactJoinShardsUptoRow.holds Try.pinned (OpenSpec.upto fnExactJoinShardsSpec)

/-- 'laws.FnExactMessageOf', WHERE WHAT IT READS IS OF BULK AT MOST 1048576: true; the input reads as it did. -/
def fnExactMessageOfUptoRow : OpenClaim := { program := "ytelkciakdhiicaa", sum := "09df49cd11b52953e79686f5d01217495b5a5288b116443217877f8e3fffab33", func := "loop.example/g00294/laws.FnExactMessageOf", spec := "fnExactMessageOf", unfollowed := true, recurses := true, apart := false, narrowed := true }
def FnExactMessageOfUptoSaid : Prop := fnExactMessageOfUptoRow.holds Try.pinned (OpenSpec.upto fnExactMessageOfSpec)

/-- 'laws.FnVectors', WHERE WHAT IT READS IS OF BULK AT MOST 1048576: true; the input reads as it did. -/
def fnVectorsUptoRow : OpenClaim := { program := "ytelkciakdhiicaa", sum := "09df49cd11b52953e79686f5d01217495b5a5288b116443217877f8e3fffab33", func := "loop.example/g00294/laws.FnVectors", spec := "fnVectors", apart := false, narrowed := true }
def FnVectorsUptoSaid : Prop := fnVectorsUptoRow.holds Try.pinned (OpenSpec.upto fnVectorsSpec)

/-- 'laws.FnExactCodeMatrix', WHERE WHAT IT READS IS OF BULK AT MOST 1048576: true; the input reads as it did. -/
def fnExactCodeMatrixUptoRow : OpenClaim := { program := "ytelkciakdhiicaa", sum := "09df49cd11b52953e79686f5d01217495b5a5288b116443217877f8e3fffab33", func := "loop.example/g00294/laws.FnExactCodeMatrix", spec := "fnExactCodeMatrix", unfollowed := true, recurses := true, apart := false, narrowed := true }
def FnExactCodeMatrixUptoSaid : Prop := fnExactCodeMatrixUptoRow.holds Try.pinned (OpenSpec.upto fnExactCodeMatrixSpec)

/-- 'laws.FnExactAddStripes', WHERE WHAT IT READS IS OF BULK AT MOST 1048576: true; the input reads as it did. -/
def fnExactAddStripesUptoRow : OpenClaim := { program := "ytelkciakdhiicaa", sum := "09df49cd11b52953e79686f5d01217495b5a5288b116443217877f8e3fffab33", func := "loop.example/g00294/laws.FnExactAddStripes", spec := "fnExactAddStripes", unfollowed := true, recurses := true, apart := false, narrowed := true }
def FnExactAddStripesUptoSaid : Prop := fnExactAddStripesUptoRow.holds Try.pinned (OpenSpec.upto fnExactAddStripesSpec)

/-- 'laws.FnExactSplitText', WHERE WHAT IT READS IS OF BULK AT MOST 1048576: true; the input reads as it did. -/
def fnExactSplitTextUptoRow : OpenClaim := { program := "ytelkciakdhiicaa", sum := "09df49cd11b52953e79686f5d01217495b5a5288b116443217877f8e3fffab33", func := "loop.example/g00294/laws.FnExactSplitText", spec := "fnExactSplitText", inPlace := ["internal/abi.NoEscape", "internal/bytealg.MakeNoZero"], apart := false, narrowed := true }
def FnExactSplitTextUptoSaid : Prop := fnExactSplitTextUptoRow.holds Try.pinned (OpenSpec.upto fnExactSplitTextSpec)

/-- 'laws.FnExactMendLocal', WHERE WHAT IT READS IS OF BULK AT MOST 1048576: true; the input reads as it did. -/
def fnExactMendLocalUptoRow : OpenClaim := { program := "ytelkciakdhiicaa", sum := "09df49cd11b52953e79686f5d01217495b5a5288b116443217877f8e3fffab33", func := "loop.example/g00294/laws.FnExactMendLocal", spec := "fnExactMendLocal", unfollowed := true, recurses := true, apart := false, narrowed := true }
def FnExactMendLocalUptoSaid : Prop := fnExactMendLocalUptoRow.holds Try.pinned (OpenSpec.upto fnExactMendLocalSpec)

end Rows
end Go.Proofs.Ytelkciakdhiicaa
