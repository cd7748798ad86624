/-
  No cell of these rows narrows 'for every input' (looked for: loops, veiled, ifaces, maps, wideKeys, modest, calm, conditions, laid).
  DERIVED. THE GIVEN ROWS OF THIS SEAT. 12 by the template 'for every input the law returns true; each argument reads behind the call as it read before'; 0 by the template 'total and deterministic' (their statements: YtajikfnpcobnpaaTotals.lean).
  GIVEN WITH THE SEED: the statements are not yours to turn. If you find one false, say at which input.
  Laid BY PROGRAM, IN A SANDBOX (cutbox-rows.mjs): the forced cells as the released guide's own fill.sh prints them over the translation 92e6409da0a31a05… (all of the seat's roots in one cut). By AI agents, Wed Nov 11 2026. No macro, syntax, notation, axiom, sorry.
-/
import Derived.Test.YtajikfnpcobnpaaChecked
import GoSem.Claim
import GoSem.ClaimJoined
import GoSem.ClaimMapViews
import Derived.JoinedTies
import Derived.KernelRfl
namespace Go.Proofs.Ytajikfnpcobnpaa
/- THE CELL 'sum', in the pinned program and in every row, IS THE sha256 OF THE DUMP (.gsa) THAT YtajikfnpcobnpaaProg.lean LOADS. Nothing in Lean hashes anything: it is a label: what it is worth is what the hold of that sum in a sandbox is worth. -/
noncomputable def Try.pinned : Pinned := { name := "ytajikfnpcobnpaa", sum := "92e6409da0a31a0551ff4791494a3c44b066e0562f253cfbb46bef274125be34", checked := Try.checked }
namespace Rows
def none {H : Type} : Left H := { results := [], args := [] }

/-- 'laws.FnExactMendStripe': WHATEVER THE INPUT: true; the input reads as it did. -/
def fnExactMendStripeSpec : ChangeSpec := { name := "fnExactMendStripe", fn := fun _ => fun
  | [d1, d2] => { results := [.lit (.bool true)], args := [d1, d2] }
  | _ => none }
def fnExactMendStripeRow : OpenClaim := { program := "ytajikfnpcobnpaa", sum := "92e6409da0a31a0551ff4791494a3c44b066e0562f253cfbb46bef274125be34", func := "loop.example/g00294/laws.FnExactMendStripe", spec := "fnExactMendStripe", unfollowed := true, recurses := true, apart := false }
def FnExactMendStripeSaid : Prop := fnExactMendStripeRow.holds Try.pinned (OpenSpec.ofChange fnExactMendStripeSpec)

/-- ITS FALSE NEIGHBOUR: 'it returns false'. Refute it at one input. -/
def fnExactMendStripeWrong : ChangeSpec := { name := "fnExactMendStripe", fn := fun _ => fun
  | [d1, d2] => { results := [.lit (.bool false)], args := [d1, d2] }
  | _ => none }
def FnExactMendStripeWrongFalsely : Prop := fnExactMendStripeRow.holds Try.pinned (OpenSpec.ofChange fnExactMendStripeWrong)

/-- 'laws.FnExactRankOf': WHATEVER THE INPUT: true; the input reads as it did. -/
def fnExactRankOfSpec : ChangeSpec := { name := "fnExactRankOf", fn := fun _ => fun
  | [d] => { results := [.lit (.bool true)], args := [d] }
  | _ => none }
def fnExactRankOfRow : OpenClaim := { program := "ytajikfnpcobnpaa", sum := "92e6409da0a31a0551ff4791494a3c44b066e0562f253cfbb46bef274125be34", func := "loop.example/g00294/laws.FnExactRankOf", spec := "fnExactRankOf", unfollowed := true, recurses := true, apart := false }
def FnExactRankOfSaid : Prop := fnExactRankOfRow.holds Try.pinned (OpenSpec.ofChange fnExactRankOfSpec)

/-- ITS FALSE NEIGHBOUR: 'it returns false'. Refute it at one input. -/
def fnExactRankOfWrong : ChangeSpec := { name := "fnExactRankOf", fn := fun _ => fun
  | [d] => { results := [.lit (.bool false)], args := [d] }
  | _ => none }
def FnExactRankOfWrongFalsely : Prop := fnExactRankOfRow.holds Try.pinned (OpenSpec.ofChange fnExactRankOfWrong)

/-- 'laws.FnExactCanDecode': WHATEVER THE INPUT: true; the input reads as it did. -/
def fnExactCanDecodeSpec : ChangeSpec := { name := "fnExactCanDecode", fn := fun _ => fun
  | [d1, d2] => { results := [.lit (.bool true)], args := [d1, d2] }
  | _ => none }
def fnExactCanDecodeRow : OpenClaim := { program := "ytajikfnpcobnpaa", sum := "92e6409da0a31a0551ff4791494a3c44b066e0562f253cfbb46bef274125be34", func := "loop.example/g00294/laws.FnExactCanDecode", spec := "fnExactCanDecode", unfollowed := true, recurses := true, apart := false }
def FnExactCanDecodeSaid : Prop := fnExactCanDecodeRow.holds Try.pinned (OpenSpec.ofChange fnExactCanDecodeSpec)

/-- ITS FALSE NEIGHBOUR: 'it returns false'. Refute it at one input. -/
def fnExactCanDecodeWrong : ChangeSpec := { name := "fnExactCanDecode", fn := fun _ => fun
  | [d1, d2] => { results := [.lit (.bool false)], args := [d1, d2] }
  | _ => none }
def FnExactCanDecodeWrongFalsely : Prop := fnExactCanDecodeRow.holds Try.pinned (OpenSpec.ofChange fnExactCanDecodeWrong)

/-- 'laws.FnExactInverseOf': WHATEVER THE INPUT: true; the input reads as it did. -/
def fnExactInverseOfSpec : ChangeSpec := { name := "fnExactInverseOf", fn := fun _ => fun
  | [d] => { results := [.lit (.bool true)], args := [d] }
  | _ => none }
def fnExactInverseOfRow : OpenClaim := { program := "ytajikfnpcobnpaa", sum := "92e6409da0a31a0551ff4791494a3c44b066e0562f253cfbb46bef274125be34", func := "loop.example/g00294/laws.FnExactInverseOf", spec := "fnExactInverseOf", unfollowed := true, recurses := true, apart := false }
def FnExactInverseOfSaid : Prop := fnExactInverseOfRow.holds Try.pinned (OpenSpec.ofChange fnExactInverseOfSpec)

/-- ITS FALSE NEIGHBOUR: 'it returns false'. Refute it at one input. -/
def fnExactInverseOfWrong : ChangeSpec := { name := "fnExactInverseOf", fn := fun _ => fun
  | [d] => { results := [.lit (.bool false)], args := [d] }
  | _ => none }
def FnExactInverseOfWrongFalsely : Prop := fnExactInverseOfRow.holds Try.pinned (OpenSpec.ofChange fnExactInverseOfWrong)

/-- 'laws.FnExactSolve': WHATEVER THE INPUT: true; the input reads as it did. -/
def fnExactSolveSpec : ChangeSpec := { name := "fnExactSolve", fn := fun _ => fun
  | [d1, d2] => { results := [.lit (.bool true)], args := [d1, d2] }
  | _ => none }
def fnExactSolveRow : OpenClaim := { program := "ytajikfnpcobnpaa", sum := "92e6409da0a31a0551ff4791494a3c44b066e0562f253cfbb46bef274125be34", func := "loop.example/g00294/laws.FnExactSolve", spec := "fnExactSolve", unfollowed := true, recurses := true, apart := false }
def FnExactSolveSaid : Prop := fnExactSolveRow.holds Try.pinned (OpenSpec.ofChange fnExactSolveSpec)

/-- ITS FALSE NEIGHBOUR: 'it returns false'. Refute it at one input. -/
def fnExactSolveWrong : ChangeSpec := { name := "fnExactSolve", fn := fun _ => fun
  | [d1, d2] => { results := [.lit (.bool false)], args := [d1, d2] }
  | _ => none }
def FnExactSolveWrongFalsely : Prop := fnExactSolveRow.holds Try.pinned (OpenSpec.ofChange fnExactSolveWrong)

/-- 'laws.FnExactRegeneratePiece': WHATEVER THE INPUT: true; the input reads as it did. -/
def fnExactRegeneratePieceSpec : ChangeSpec := { name := "fnExactRegeneratePiece", fn := fun _ => fun
  | [d1, d2, d3] => { results := [.lit (.bool true)], args := [d1, d2, d3] }
  | _ => none }
def fnExactRegeneratePieceRow : OpenClaim := { program := "ytajikfnpcobnpaa", sum := "92e6409da0a31a0551ff4791494a3c44b066e0562f253cfbb46bef274125be34", func := "loop.example/g00294/laws.FnExactRegeneratePiece", spec := "fnExactRegeneratePiece", unfollowed := true, recurses := true, apart := false }
def FnExactRegeneratePieceSaid : Prop := fnExactRegeneratePieceRow.holds Try.pinned (OpenSpec.ofChange fnExactRegeneratePieceSpec)

/-- ITS FALSE NEIGHBOUR: 'it returns false'. Refute it at one input. -/
def fnExactRegeneratePieceWrong : ChangeSpec := { name := "fnExactRegeneratePiece", fn := fun _ => fun
  | [d1, d2, d3] => { results := [.lit (.bool false)], args := [d1, d2, d3] }
  | _ => none }
def FnExactRegeneratePieceWrongFalsely : Prop := fnExactRegeneratePieceRow.holds Try.pinned (OpenSpec.ofChange fnExactRegeneratePieceWrong)

/-- 'laws.FnExactRebuildShard': WHATEVER THE INPUT: true; the input reads as it did. -/
def fnExactRebuildShardSpec : ChangeSpec := { name := "fnExactRebuildShard", fn := fun _ => fun
  | [d1, d2, d3, d4] => { results := [.lit (.bool true)], args := [d1, d2, d3, d4] }
  | _ => none }
def fnExactRebuildShardRow : OpenClaim := { program := "ytajikfnpcobnpaa", sum := "92e6409da0a31a0551ff4791494a3c44b066e0562f253cfbb46bef274125be34", func := "loop.example/g00294/laws.FnExactRebuildShard", spec := "fnExactRebuildShard", unfollowed := true, recurses := true, apart := false }
def FnExactRebuildShardSaid : Prop := fnExactRebuildShardRow.holds Try.pinned (OpenSpec.ofChange fnExactRebuildShardSpec)

/-- ITS FALSE NEIGHBOUR: 'it returns false'. Refute it at one input. -/
def fnExactRebuildShardWrong : ChangeSpec := { name := "fnExactRebuildShard", fn := fun _ => fun
  | [d1, d2, d3, d4] => { results := [.lit (.bool false)], args := [d1, d2, d3, d4] }
  | _ => none }
def FnExactRebuildShardWrongFalsely : Prop := fnExactRebuildShardRow.holds Try.pinned (OpenSpec.ofChange fnExactRebuildShardWrong)

/-- 'laws.FnExactCheckShards': WHATEVER THE INPUT: true; the input reads as it did. -/
def fnExactCheckShardsSpec : ChangeSpec := { name := "fnExactCheckShards", fn := fun _ => fun
  | [d1, d2, d3] => { results := [.lit (.bool true)], args := [d1, d2, d3] }
  | _ => none }
def fnExactCheckShardsRow : OpenClaim := { program := "ytajikfnpcobnpaa", sum := "92e6409da0a31a0551ff4791494a3c44b066e0562f253cfbb46bef274125be34", func := "loop.example/g00294/laws.FnExactCheckShards", spec := "fnExactCheckShards", unfollowed := true, recurses := true, apart := false }
def FnExactCheckShardsSaid : Prop := fnExactCheckShardsRow.holds Try.pinned (OpenSpec.ofChange fnExactCheckShardsSpec)

/-- ITS FALSE NEIGHBOUR: 'it returns false'. Refute it at one input. -/
def fnExactCheckShardsWrong : ChangeSpec := { name := "fnExactCheckShards", fn := fun _ => fun
  | [d1, d2, d3] => { results := [.lit (.bool false)], args := [d1, d2, d3] }
  | _ => none }
def FnExactCheckShardsWrongFalsely : Prop := fnExactCheckShardsRow.holds Try.pinned (OpenSpec.ofChange fnExactCheckShardsWrong)

/-- 'laws.FnExactDecodeShards': WHATEVER THE INPUT: true; the input reads as it did. -/
def fnExactDecodeShardsSpec : ChangeSpec := { name := "fnExactDecodeShards", fn := fun _ => fun
  | [d1, d2, d3] => { results := [.lit (.bool true)], args := [d1, d2, d3] }
  | _ => none }
def fnExactDecodeShardsRow : OpenClaim := { program := "ytajikfnpcobnpaa", sum := "92e6409da0a31a0551ff4791494a3c44b066e0562f253cfbb46bef274125be34", func := "loop.example/g00294/laws.FnExactDecodeShards", spec := "fnExactDecodeShards", unfollowed := true, recurses := true, apart := false }
def FnExactDecodeShardsSaid : Prop := fnExactDecodeShardsRow.holds Try.pinned (OpenSpec.ofChange fnExactDecodeShardsSpec)

/-- ITS FALSE NEIGHBOUR: 'it returns false'. Refute it at one input. -/
def fnExactDecodeShardsWrong : ChangeSpec := { name := "fnExactDecodeShards", fn := fun _ => fun
  | [d1, d2, d3] => { results := [.lit (.bool false)], args := [d1, d2, d3] }
  | _ => none }
def FnExactDecodeShardsWrongFalsely : Prop := fnExactDecodeShardsRow.holds Try.pinned (OpenSpec.ofChange fnExactDecodeShardsWrong)

/-- 'laws.FnExactDecodeMsr': WHATEVER THE INPUT: true; the input reads as it did. -/
def fnExactDecodeMsrSpec : ChangeSpec := { name := "fnExactDecodeMsr", fn := fun _ => fun
  | [d1, d2] => { results := [.lit (.bool true)], args := [d1, d2] }
  | _ => none }
def fnExactDecodeMsrRow : OpenClaim := { program := "ytajikfnpcobnpaa", sum := "92e6409da0a31a0551ff4791494a3c44b066e0562f253cfbb46bef274125be34", func := "loop.example/g00294/laws.FnExactDecodeMsr", spec := "fnExactDecodeMsr", unfollowed := true, recurses := true, apart := false }
def FnExactDecodeMsrSaid : Prop := fnExactDecodeMsrRow.holds Try.pinned (OpenSpec.ofChange fnExactDecodeMsrSpec)

/-- ITS FALSE NEIGHBOUR: 'it returns false'. Refute it at one input. -/
def fnExactDecodeMsrWrong : ChangeSpec := { name := "fnExactDecodeMsr", fn := fun _ => fun
  | [d1, d2] => { results := [.lit (.bool false)], args := [d1, d2] }
  | _ => none }
def FnExactDecodeMsrWrongFalsely : Prop := fnExactDecodeMsrRow.holds Try.pinned (OpenSpec.ofChange fnExactDecodeMsrWrong)

/-- 'laws.FnExactDecodeLocal': WHATEVER THE INPUT: true; the input reads as it did. -/
def fnExactDecodeLocalSpec : ChangeSpec := { name := "fnExactDecodeLocal", fn := fun _ => fun
  | [d1, d2] => { results := [.lit (.bool true)], args := [d1, d2] }
  | _ => none }
def fnExactDecodeLocalRow : OpenClaim := { program := "ytajikfnpcobnpaa", sum := "92e6409da0a31a0551ff4791494a3c44b066e0562f253cfbb46bef274125be34", func := "loop.example/g00294/laws.FnExactDecodeLocal", spec := "fnExactDecodeLocal", unfollowed := true, recurses := true, apart := false }
def FnExactDecodeLocalSaid : Prop := fnExactDecodeLocalRow.holds Try.pinned (OpenSpec.ofChange fnExactDecodeLocalSpec)

/-- ITS FALSE NEIGHBOUR: 'it returns false'. Refute it at one input. -/
def fnExactDecodeLocalWrong : ChangeSpec := { name := "fnExactDecodeLocal", fn := fun _ => fun
  | [d1, d2] => { results := [.lit (.bool false)], args := [d1, d2] }
  | _ => none }
def FnExactDecodeLocalWrongFalsely : Prop := fnExactDecodeLocalRow.holds Try.pinned (OpenSpec.ofChange fnExactDecodeLocalWrong)

/-- 'laws.FnMatrices': WHATEVER THE INPUT: true; the input reads as it did. -/
def fnMatricesSpec : ChangeSpec := { name := "fnMatrices", fn := fun _ => fun
  | [d1, d2] => { results := [.lit (.bool true)], args := [d1, d2] }
  | _ => none }
def fnMatricesRow : OpenClaim := { program := "ytajikfnpcobnpaa", sum := "92e6409da0a31a0551ff4791494a3c44b066e0562f253cfbb46bef274125be34", func := "loop.example/g00294/laws.FnMatrices", spec := "fnMatrices", unfollowed := true, recurses := true, apart := false }
def FnMatricesSaid : Prop := fnMatricesRow.holds Try.pinned (OpenSpec.ofChange fnMatricesSpec)

/-- ITS FALSE NEIGHBOUR: 'it returns false'. Refute it at one input. -/
def fnMatricesWrong : ChangeSpec := { name := "fnMatrices", fn := fun _ => fun
  | [d1, d2] => { results := [.lit (.bool false)], args := [d1, d2] }
  | _ => none }
def FnMatricesWrongFalsely : Prop := fnMatricesRow.holds Try.pinned (OpenSpec.ofChange fnMatricesWrong)

/- THE SECOND FORM. 'bulk': how many values and letters a reading holds, each counted each time it is reached (what is shared counts as often as it is met; a slice's spare places count too). A statement '..UptoSaid' is the law's where the arguments, and the package variables that the reading takes, are together of bulk at most 1048576: NARROWER than '..Said'. Prove '..Said' where nothing that the law and all that it calls make is longer than what came in: it says more and counts as full. Else prove '..UptoSaid'. A law counts once. -/
mutual
def uptoBulk {H : Type} : DataW H → Nat
  | .lit (.string bytes) => bytes.length + 1
  | .lit _ => 1
  | .nil => 1
  | .ptr d => uptoBulk d + 1
  | .slice elems spare => uptoBulkAll elems + uptoBulkAll spare + 1
  | .agg parts => uptoBulkAll parts + 1
  | .iface _ d => uptoBulk d + 1
  | .map entries => uptoBulkEntries entries + 1
  | .held _ => 1
def uptoBulkAll {H : Type} : List (DataW H) → Nat
  | [] => 0
  | d :: r => uptoBulk d + uptoBulkAll r
def uptoBulkEntries {H : Type} : List (Lit × DataW H) → Nat
  | [] => 0
  | x :: r => uptoBulkEntry x + uptoBulkEntries r
def uptoBulkEntry {H : Type} : Lit × DataW H → Nat
  | (.string bytes, d) => bytes.length + uptoBulk d + 1
  | (_, d) => uptoBulk d + 1
 end
def uptoSmall : (H : Type) → List (DataW H) → Bool := fun _ ds => decide (uptoBulkAll ds ≤ 1048576)
def OpenSpec.upto (s : _root_.Go.ChangeSpec) : _root_.Go.OpenSpec := { _root_.Go.OpenSpec.ofChange s with cond := some uptoSmall }

/-- 'laws.FnExactMendStripe', WHERE WHAT IT READS IS OF BULK AT MOST 1048576: true; the input reads as it did. -/
def fnExactMendStripeUptoRow : OpenClaim := { program := "ytajikfnpcobnpaa", sum := "92e6409da0a31a0551ff4791494a3c44b066e0562f253cfbb46bef274125be34", func := "loop.example/g00294/laws.FnExactMendStripe", spec := "fnExactMendStripe", unfollowed := true, recurses := true, apart := false, narrowed := true }
def FnExactMendStripeUptoSaid : Prop := fnExactMendStripeUptoRow.holds Try.pinned (OpenSpec.upto fnExactMendStripeSpec)

/-- 'laws.FnExactRankOf', WHERE WHAT IT READS IS OF BULK AT MOST 1048576: true; the input reads as it did. -/
def fnExactRankOfUptoRow : OpenClaim := { program := "ytajikfnpcobnpaa", sum := "92e6409da0a31a0551ff4791494a3c44b066e0562f253cfbb46bef274125be34", func := "loop.example/g00294/laws.FnExactRankOf", spec := "fnExactRankOf", unfollowed := true, recurses := true, apart := false, narrowed := true }
def FnExactRankOfUptoSaid : Prop := fnExactRankOfUptoRow.holds Try.pinned (OpenSpec.upto fnExactRankOfSpec)

/-- 'laws.FnExactCanDecode', WHERE WHAT IT READS IS OF BULK AT MOST 1048576: true; the input reads as it did. -/
def fnExactCanDecodeUptoRow : OpenClaim := { program := "ytajikfnpcobnpaa", sum := "92e6409da0a31a0551ff4791494a3c44b066e0562f253cfbb46bef274125be34", func := "loop.example/g00294/laws.FnExactCanDecode", spec := "fnExactCanDecode", unfollowed := true, recurses := true, apart := false, narrowed := true }
def FnExactCanDecodeUptoSaid : Prop := fnExactCanDecodeUptoRow.holds Try.pinned (OpenSpec.upto fnExactCanDecodeSpec)

/-- 'laws.FnExactInverseOf', WHERE WHAT IT READS IS OF BULK AT MOST 1048576: true; the input reads as it did. -/
def fnExactInverseOfUptoRow : OpenClaim := { program := "ytajikfnpcobnpaa", sum := "92e6409da0a31a0551ff4791494a3c44b066e0562f253cfbb46bef274125be34", func := "loop.example/g00294/laws.FnExactInverseOf", spec := "fnExactInverseOf", unfollowed := true, recurses := true, apart := false, narrowed := true }
def FnExactInverseOfUptoSaid : Prop := fnExactInverseOfUptoRow.holds Try.pinned (OpenSpec.upto fnExactInverseOfSpec)

/-- 'laws.FnExactSolve', WHERE WHAT IT READS IS OF BULK AT MOST 1048576: true; the input reads as it did. -/
def fnExactSolveUptoRow : OpenClaim := { program := "ytajikfnpcobnpaa", sum := "92e6409da0a31a0551ff4791494a3c44b066e0562f253cfbb46bef274125be34", func := "loop.example/g00294/laws.FnExactSolve", spec := "fnExactSolve", unfollowed := true, recurses := true, apart := false, narrowed := true }
def FnExactSolveUptoSaid : Prop := fnExactSolveUptoRow.holds Try.pinned (OpenSpec.upto fnExactSolveSpec)

/-- 'laws.FnExactRegeneratePiece', WHERE WHAT IT READS IS OF BULK AT MOST 1048576: true; the input reads as it did. -/
def fnExactRegeneratePieceUptoRow : OpenClaim := { program := "ytajikfnpcobnpaa", sum := "92e6409da0a31a0551ff4791494a3c44b066e0562f253cfbb46bef274125be34", func := "loop.example/g00294/laws.FnExactRegeneratePiece", spec := "fnExactRegeneratePiece", unfollowed := true, recurses := true, apart := false, narrowed := true }
def FnExactRegeneratePieceUptoSaid : Prop := fnExactRegeneratePieceUptoRow.holds Try.pinned (OpenSpec.upto fnExactRegeneratePieceSpec)

/-- 'laws.FnExactRebuildShard', WHERE WHAT IT READS IS OF BULK AT MOST 1048576: true; the input reads as it did. -/
def fnExactRebuildShardUptoRow : OpenClaim := { program := "ytajikfnpcobnpaa", sum := "92e6409da0a31a0551ff4791494a3c44b066e0562f253cfbb46bef274125be34", func := "loop.example/g00294/laws.FnExactRebuildShard", spec := "fnExactRebuildShard", unfollowed := true, recurses := true, apart := false, narrowed := true }
def FnExactRebuildShardUptoSaid : Prop := fnExactRebuildShardUptoRow.holds Try.pinned (OpenSpec.upto fnExactRebuildShardSpec)

/-- 'laws.FnExactCheckShards', WHERE WHAT IT READS IS OF BULK AT MOST 1048576: true; the input reads as it did. -/
def fnExactCheckShardsUptoRow : OpenClaim := { program := "ytajikfnpcobnpaa", sum := "92e6409da0a31a0551ff4791494a3c44b066e0562f253cfbb46bef274125be34", func := "loop.example/g00294/laws.FnExactCheckShards", spec := "fnExactCheckShards", unfollowed := true, recurses := true, apart := false, narrowed := true }
def FnExactCheckShardsUptoSaid : Prop := fnExactCheckShardsUptoRow.holds Try.pinned (OpenSpec.upto fnExactCheckShardsSpec)

/-- 'laws.FnExactDecodeShards', WHERE WHAT IT READS IS OF BULK AT MOST 1048576: true; the input reads as it did. -/
def fnExactDecodeShardsUptoRow : OpenClaim := { program := "ytajikfnpcobnpaa", sum := "92e6409da0a31a0551ff4791494a3c44b066e0562f253cfbb46bef274125be34", func := "loop.example/g00294/laws.FnExactDecodeShards", spec := "fnExactDecodeShards", unfollowed := true, recurses := true, apart := false, narrowed := true }
def FnExactDecodeShardsUptoSaid : Prop := fnExactDecodeShardsUptoRow.holds Try.pinned (OpenSpec.upto fnExactDecodeShardsSpec)

/-- 'laws.FnExactDecodeMsr', WHERE WHAT IT READS IS OF BULK AT MOST 1048576: true; the input reads as it did. -/
def fnExactDecodeMsrUptoRow : OpenClaim := { program := "ytajikfnpcobnpaa", sum := "92e6409da0a31a0551ff4791494a3c44b066e0562f253cfbb46bef274125be34", func := "loop.example/g00294/laws.FnExactDecodeMsr", spec := "fnExactDecodeMsr", unfollowed := true, recurses := true, apart := false, narrowed := true }
def FnExactDecodeMsrUptoSaid : Prop := fnExactDecodeMsrUptoRow.holds Try.pinned (OpenSpec.upto fnExactDecodeMsrSpec)

/-- 'laws.FnExactDecodeLocal', WHERE WHAT IT READS IS OF BULK AT MOST 1048576: true; the input reads as it did. -/
def fnExactDecodeLocalUptoRow : OpenClaim := { program := "ytajikfnpcobnpaa", sum := "92e6409da0a31a0551ff4791494a3c44b066e0562f253cfbb46bef274125be34", func := "loop.example/g00294/laws.FnExactDecodeLocal", spec := "fnExactDecodeLocal", unfollowed := true, recurses := true, apart := false, narrowed := true }
def FnExactDecodeLocalUptoSaid : Prop := fnExactDecodeLocalUptoRow.holds Try.pinned (OpenSpec.upto fnExactDecodeLocalSpec)

/-- 'laws.FnMatrices', WHERE WHAT IT READS IS OF BULK AT MOST 1048576: true; the input reads as it did. -/
def fnMatricesUptoRow : OpenClaim := { program := "ytajikfnpcobnpaa", sum := "92e6409da0a31a0551ff4791494a3c44b066e0562f253cfbb46bef274125be34", func := "loop.example/g00294/laws.FnMatrices", spec := "fnMatrices", unfollowed := true, recurses := true, apart := false, narrowed := true }
def FnMatricesUptoSaid : Prop := fnMatricesUptoRow.holds Try.pinned (OpenSpec.upto fnMatricesSpec)

end Rows
end Go.Proofs.Ytajikfnpcobnpaa
