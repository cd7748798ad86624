/-
  No cell of these rows narrows 'for every input' (looked for: loops, veiled, ifaces, maps, wideKeys, modest, calm, conditions, laid).
  DERIVED. THE GIVEN ROWS OF THIS SEAT. 12 by the template 'for every input the law returns true; each argument reads behind the call as it read before'; 0 by the template 'total and deterministic' (their statements: YtlmcobjpmonkfaaTotals.lean).
  GIVEN WITH THE SEED: the statements are not yours to turn. If you find one false, say at which input.
  Laid BY PROGRAM, IN A SANDBOX (cutbox-rows.mjs): the forced cells as the released guide's own fill.sh prints them over the translation 5817b79c53f07570… (all of the seat's roots in one cut). By AI agents, Wed Nov 11 2026. No macro, syntax, notation, axiom, sorry.
-/
import Derived.Test.YtlmcobjpmonkfaaChecked
import GoSem.Claim
import GoSem.ClaimJoined
import GoSem.ClaimMapViews
import Derived.JoinedTies
import Derived.KernelRfl
namespace Go.Proofs.Ytlmcobjpmonkfaa
/- THE CELL 'sum', in the pinned program and in every row, IS THE sha256 OF THE DUMP (.gsa) THAT YtlmcobjpmonkfaaProg.lean LOADS. Nothing in Lean hashes anything: it is a label: what it is worth is what the hold of that sum in a sandbox is worth. -/
noncomputable def Try.pinned : Pinned := { name := "ytlmcobjpmonkfaa", sum := "5817b79c53f07570f912045856d74b5f3364c1b89f3dd8e08b842e9e32424762", checked := Try.checked }
namespace Rows
def none {H : Type} : Left H := { results := [], args := [] }

/-- 'laws.FnExactMendStripe': WHATEVER THE INPUT: true; the input reads as it did. -/
def fnExactMendStripeSpec : ChangeSpec := { name := "fnExactMendStripe", fn := fun _ => fun
  | [d1, d2] => { results := [.lit (.bool true)], args := [d1, d2] }
  | _ => none }
def fnExactMendStripeRow : OpenClaim := { program := "ytlmcobjpmonkfaa", sum := "5817b79c53f07570f912045856d74b5f3364c1b89f3dd8e08b842e9e32424762", func := "loop.example/g00294/laws.FnExactMendStripe", spec := "fnExactMendStripe", unfollowed := true, recurses := true, apart := false }
def FnExactMendStripeSaid : Prop := fnExactMendStripeRow.holds Try.pinned (OpenSpec.ofChange fnExactMendStripeSpec)

/-- ITS FALSE NEIGHBOUR: 'it returns false'. Refute it at one input. -/
def fnExactMendStripeWrong : ChangeSpec := { name := "fnExactMendStripe", fn := fun _ => fun
  | [d1, d2] => { results := [.lit (.bool false)], args := [d1, d2] }
  | _ => none }
def FnExactMendStripeWrongFalsely : Prop := fnExactMendStripeRow.holds Try.pinned (OpenSpec.ofChange fnExactMendStripeWrong)

/-- 'laws.FnExactLocalMatrix': WHATEVER THE INPUT: true; the input reads as it did. -/
def fnExactLocalMatrixSpec : ChangeSpec := { name := "fnExactLocalMatrix", fn := fun _ => fun
  | [d] => { results := [.lit (.bool true)], args := [d] }
  | _ => none }
def fnExactLocalMatrixRow : OpenClaim := { program := "ytlmcobjpmonkfaa", sum := "5817b79c53f07570f912045856d74b5f3364c1b89f3dd8e08b842e9e32424762", func := "loop.example/g00294/laws.FnExactLocalMatrix", spec := "fnExactLocalMatrix", unfollowed := true, recurses := true, apart := false }
def FnExactLocalMatrixSaid : Prop := fnExactLocalMatrixRow.holds Try.pinned (OpenSpec.ofChange fnExactLocalMatrixSpec)

/-- ITS FALSE NEIGHBOUR: 'it returns false'. Refute it at one input. -/
def fnExactLocalMatrixWrong : ChangeSpec := { name := "fnExactLocalMatrix", fn := fun _ => fun
  | [d] => { results := [.lit (.bool false)], args := [d] }
  | _ => none }
def FnExactLocalMatrixWrongFalsely : Prop := fnExactLocalMatrixRow.holds Try.pinned (OpenSpec.ofChange fnExactLocalMatrixWrong)

/-- 'laws.FnExactMergeStripes': WHATEVER THE INPUT: true; the input reads as it did. -/
def fnExactMergeStripesSpec : ChangeSpec := { name := "fnExactMergeStripes", fn := fun _ => fun
  | [d1, d2] => { results := [.lit (.bool true)], args := [d1, d2] }
  | _ => none }
def fnExactMergeStripesRow : OpenClaim := { program := "ytlmcobjpmonkfaa", sum := "5817b79c53f07570f912045856d74b5f3364c1b89f3dd8e08b842e9e32424762", func := "loop.example/g00294/laws.FnExactMergeStripes", spec := "fnExactMergeStripes", unfollowed := true, recurses := true, apart := false }
def FnExactMergeStripesSaid : Prop := fnExactMergeStripesRow.holds Try.pinned (OpenSpec.ofChange fnExactMergeStripesSpec)

/-- ITS FALSE NEIGHBOUR: 'it returns false'. Refute it at one input. -/
def fnExactMergeStripesWrong : ChangeSpec := { name := "fnExactMergeStripes", fn := fun _ => fun
  | [d1, d2] => { results := [.lit (.bool false)], args := [d1, d2] }
  | _ => none }
def FnExactMergeStripesWrongFalsely : Prop := fnExactMergeStripesRow.holds Try.pinned (OpenSpec.ofChange fnExactMergeStripesWrong)

/-- 'laws.FnExactProduct': WHATEVER THE INPUT: true; the input reads as it did. -/
def fnExactProductSpec : ChangeSpec := { name := "fnExactProduct", fn := fun _ => fun
  | [d1, d2] => { results := [.lit (.bool true)], args := [d1, d2] }
  | _ => none }
def fnExactProductRow : OpenClaim := { program := "ytlmcobjpmonkfaa", sum := "5817b79c53f07570f912045856d74b5f3364c1b89f3dd8e08b842e9e32424762", func := "loop.example/g00294/laws.FnExactProduct", spec := "fnExactProduct", unfollowed := true, recurses := true, apart := false }
def FnExactProductSaid : Prop := fnExactProductRow.holds Try.pinned (OpenSpec.ofChange fnExactProductSpec)

/-- ITS FALSE NEIGHBOUR: 'it returns false'. Refute it at one input. -/
def fnExactProductWrong : ChangeSpec := { name := "fnExactProduct", fn := fun _ => fun
  | [d1, d2] => { results := [.lit (.bool false)], args := [d1, d2] }
  | _ => none }
def FnExactProductWrongFalsely : Prop := fnExactProductRow.holds Try.pinned (OpenSpec.ofChange fnExactProductWrong)

/-- 'laws.FnExactMakeStripe': WHATEVER THE INPUT: true; the input reads as it did. -/
def fnExactMakeStripeSpec : ChangeSpec := { name := "fnExactMakeStripe", fn := fun _ => fun
  | [d1, d2] => { results := [.lit (.bool true)], args := [d1, d2] }
  | _ => none }
def fnExactMakeStripeRow : OpenClaim := { program := "ytlmcobjpmonkfaa", sum := "5817b79c53f07570f912045856d74b5f3364c1b89f3dd8e08b842e9e32424762", func := "loop.example/g00294/laws.FnExactMakeStripe", spec := "fnExactMakeStripe", unfollowed := true, recurses := true, apart := false }
def FnExactMakeStripeSaid : Prop := fnExactMakeStripeRow.holds Try.pinned (OpenSpec.ofChange fnExactMakeStripeSpec)

/-- ITS FALSE NEIGHBOUR: 'it returns false'. Refute it at one input. -/
def fnExactMakeStripeWrong : ChangeSpec := { name := "fnExactMakeStripe", fn := fun _ => fun
  | [d1, d2] => { results := [.lit (.bool false)], args := [d1, d2] }
  | _ => none }
def FnExactMakeStripeWrongFalsely : Prop := fnExactMakeStripeRow.holds Try.pinned (OpenSpec.ofChange fnExactMakeStripeWrong)

/-- 'laws.FnExactIsRight': WHATEVER THE INPUT: true; the input reads as it did. -/
def fnExactIsRightSpec : ChangeSpec := { name := "fnExactIsRight", fn := fun _ => fun
  | [d] => { results := [.lit (.bool true)], args := [d] }
  | _ => none }
def fnExactIsRightRow : OpenClaim := { program := "ytlmcobjpmonkfaa", sum := "5817b79c53f07570f912045856d74b5f3364c1b89f3dd8e08b842e9e32424762", func := "loop.example/g00294/laws.FnExactIsRight", spec := "fnExactIsRight", unfollowed := true, recurses := true, apart := false }
def FnExactIsRightSaid : Prop := fnExactIsRightRow.holds Try.pinned (OpenSpec.ofChange fnExactIsRightSpec)

/-- ITS FALSE NEIGHBOUR: 'it returns false'. Refute it at one input. -/
def fnExactIsRightWrong : ChangeSpec := { name := "fnExactIsRight", fn := fun _ => fun
  | [d] => { results := [.lit (.bool false)], args := [d] }
  | _ => none }
def FnExactIsRightWrongFalsely : Prop := fnExactIsRightRow.holds Try.pinned (OpenSpec.ofChange fnExactIsRightWrong)

/-- 'laws.FnExactChangeStripe': WHATEVER THE INPUT: true; the input reads as it did. -/
def fnExactChangeStripeSpec : ChangeSpec := { name := "fnExactChangeStripe", fn := fun _ => fun
  | [d1, d2, d3] => { results := [.lit (.bool true)], args := [d1, d2, d3] }
  | _ => none }
def fnExactChangeStripeRow : OpenClaim := { program := "ytlmcobjpmonkfaa", sum := "5817b79c53f07570f912045856d74b5f3364c1b89f3dd8e08b842e9e32424762", func := "loop.example/g00294/laws.FnExactChangeStripe", spec := "fnExactChangeStripe", unfollowed := true, recurses := true, apart := false }
def FnExactChangeStripeSaid : Prop := fnExactChangeStripeRow.holds Try.pinned (OpenSpec.ofChange fnExactChangeStripeSpec)

/-- ITS FALSE NEIGHBOUR: 'it returns false'. Refute it at one input. -/
def fnExactChangeStripeWrong : ChangeSpec := { name := "fnExactChangeStripe", fn := fun _ => fun
  | [d1, d2, d3] => { results := [.lit (.bool false)], args := [d1, d2, d3] }
  | _ => none }
def FnExactChangeStripeWrongFalsely : Prop := fnExactChangeStripeRow.holds Try.pinned (OpenSpec.ofChange fnExactChangeStripeWrong)

/-- 'laws.FnExactRankOf': WHATEVER THE INPUT: true; the input reads as it did. -/
def fnExactRankOfSpec : ChangeSpec := { name := "fnExactRankOf", fn := fun _ => fun
  | [d] => { results := [.lit (.bool true)], args := [d] }
  | _ => none }
def fnExactRankOfRow : OpenClaim := { program := "ytlmcobjpmonkfaa", sum := "5817b79c53f07570f912045856d74b5f3364c1b89f3dd8e08b842e9e32424762", func := "loop.example/g00294/laws.FnExactRankOf", spec := "fnExactRankOf", unfollowed := true, recurses := true, apart := false }
def FnExactRankOfSaid : Prop := fnExactRankOfRow.holds Try.pinned (OpenSpec.ofChange fnExactRankOfSpec)

/-- ITS FALSE NEIGHBOUR: 'it returns false'. Refute it at one input. -/
def fnExactRankOfWrong : ChangeSpec := { name := "fnExactRankOf", fn := fun _ => fun
  | [d] => { results := [.lit (.bool false)], args := [d] }
  | _ => none }
def FnExactRankOfWrongFalsely : Prop := fnExactRankOfRow.holds Try.pinned (OpenSpec.ofChange fnExactRankOfWrong)

/-- 'laws.FnExactEncodeShards': WHATEVER THE INPUT: true; the input reads as it did. -/
def fnExactEncodeShardsSpec : ChangeSpec := { name := "fnExactEncodeShards", fn := fun _ => fun
  | [d1, d2] => { results := [.lit (.bool true)], args := [d1, d2] }
  | _ => none }
def fnExactEncodeShardsRow : OpenClaim := { program := "ytlmcobjpmonkfaa", sum := "5817b79c53f07570f912045856d74b5f3364c1b89f3dd8e08b842e9e32424762", func := "loop.example/g00294/laws.FnExactEncodeShards", spec := "fnExactEncodeShards", unfollowed := true, recurses := true, apart := false }
def FnExactEncodeShardsSaid : Prop := fnExactEncodeShardsRow.holds Try.pinned (OpenSpec.ofChange fnExactEncodeShardsSpec)

/-- ITS FALSE NEIGHBOUR: 'it returns false'. Refute it at one input. -/
def fnExactEncodeShardsWrong : ChangeSpec := { name := "fnExactEncodeShards", fn := fun _ => fun
  | [d1, d2] => { results := [.lit (.bool false)], args := [d1, d2] }
  | _ => none }
def FnExactEncodeShardsWrongFalsely : Prop := fnExactEncodeShardsRow.holds Try.pinned (OpenSpec.ofChange fnExactEncodeShardsWrong)

/-- 'laws.FnExactEncodeMsr': WHATEVER THE INPUT: true; the input reads as it did. -/
def fnExactEncodeMsrSpec : ChangeSpec := { name := "fnExactEncodeMsr", fn := fun _ => fun
  | [d1, d2] => { results := [.lit (.bool true)], args := [d1, d2] }
  | _ => none }
def fnExactEncodeMsrRow : OpenClaim := { program := "ytlmcobjpmonkfaa", sum := "5817b79c53f07570f912045856d74b5f3364c1b89f3dd8e08b842e9e32424762", func := "loop.example/g00294/laws.FnExactEncodeMsr", spec := "fnExactEncodeMsr", unfollowed := true, recurses := true, apart := false }
def FnExactEncodeMsrSaid : Prop := fnExactEncodeMsrRow.holds Try.pinned (OpenSpec.ofChange fnExactEncodeMsrSpec)

/-- ITS FALSE NEIGHBOUR: 'it returns false'. Refute it at one input. -/
def fnExactEncodeMsrWrong : ChangeSpec := { name := "fnExactEncodeMsr", fn := fun _ => fun
  | [d1, d2] => { results := [.lit (.bool false)], args := [d1, d2] }
  | _ => none }
def FnExactEncodeMsrWrongFalsely : Prop := fnExactEncodeMsrRow.holds Try.pinned (OpenSpec.ofChange fnExactEncodeMsrWrong)

/-- 'laws.FnExactEncodeLocal': WHATEVER THE INPUT: true; the input reads as it did. -/
def fnExactEncodeLocalSpec : ChangeSpec := { name := "fnExactEncodeLocal", fn := fun _ => fun
  | [d1, d2] => { results := [.lit (.bool true)], args := [d1, d2] }
  | _ => none }
def fnExactEncodeLocalRow : OpenClaim := { program := "ytlmcobjpmonkfaa", sum := "5817b79c53f07570f912045856d74b5f3364c1b89f3dd8e08b842e9e32424762", func := "loop.example/g00294/laws.FnExactEncodeLocal", spec := "fnExactEncodeLocal", unfollowed := true, recurses := true, apart := false }
def FnExactEncodeLocalSaid : Prop := fnExactEncodeLocalRow.holds Try.pinned (OpenSpec.ofChange fnExactEncodeLocalSpec)

/-- ITS FALSE NEIGHBOUR: 'it returns false'. Refute it at one input. -/
def fnExactEncodeLocalWrong : ChangeSpec := { name := "fnExactEncodeLocal", fn := fun _ => fun
  | [d1, d2] => { results := [.lit (.bool false)], args := [d1, d2] }
  | _ => none }
def FnExactEncodeLocalWrongFalsely : Prop := fnExactEncodeLocalRow.holds Try.pinned (OpenSpec.ofChange fnExactEncodeLocalWrong)

/-- 'laws.FnExactCanDecode': WHATEVER THE INPUT: true; the input reads as it did. -/
def fnExactCanDecodeSpec : ChangeSpec := { name := "fnExactCanDecode", fn := fun _ => fun
  | [d1, d2] => { results := [.lit (.bool true)], args := [d1, d2] }
  | _ => none }
def fnExactCanDecodeRow : OpenClaim := { program := "ytlmcobjpmonkfaa", sum := "5817b79c53f07570f912045856d74b5f3364c1b89f3dd8e08b842e9e32424762", func := "loop.example/g00294/laws.FnExactCanDecode", spec := "fnExactCanDecode", unfollowed := true, recurses := true, apart := false }
def FnExactCanDecodeSaid : Prop := fnExactCanDecodeRow.holds Try.pinned (OpenSpec.ofChange fnExactCanDecodeSpec)

/-- ITS FALSE NEIGHBOUR: 'it returns false'. Refute it at one input. -/
def fnExactCanDecodeWrong : ChangeSpec := { name := "fnExactCanDecode", fn := fun _ => fun
  | [d1, d2] => { results := [.lit (.bool false)], args := [d1, d2] }
  | _ => none }
def FnExactCanDecodeWrongFalsely : Prop := fnExactCanDecodeRow.holds Try.pinned (OpenSpec.ofChange fnExactCanDecodeWrong)

/- THE SECOND FORM. 'bulk': how many values and letters a reading holds, each counted each time it is reached (what is shared counts as often as it is met; a slice's spare places count too). A statement '..UptoSaid' is the law's where the arguments, and the package variables that the reading takes, are together of bulk at most 1048576: NARROWER than '..Said'. Prove '..Said' where nothing that the law and all that it calls make is longer than what came in: it says more and counts as full. Else prove '..UptoSaid'. A law counts once. -/
mutual
def uptoBulk {H : Type} : DataW H → Nat
  | .lit (.string bytes) => bytes.length + 1
  | .lit _ => 1
  | .nil => 1
  | .ptr d => uptoBulk d + 1
  | .slice elems spare => uptoBulkAll elems + uptoBulkAll spare + 1
  | .agg parts => uptoBulkAll parts + 1
  | .iface _ d => uptoBulk d + 1
  | .map entries => uptoBulkEntries entries + 1
  | .held _ => 1
def uptoBulkAll {H : Type} : List (DataW H) → Nat
  | [] => 0
  | d :: r => uptoBulk d + uptoBulkAll r
def uptoBulkEntries {H : Type} : List (Lit × DataW H) → Nat
  | [] => 0
  | x :: r => uptoBulkEntry x + uptoBulkEntries r
def uptoBulkEntry {H : Type} : Lit × DataW H → Nat
  | (.string bytes, d) => bytes.length + uptoBulk d + 1
  | (_, d) => uptoBulk d + 1
 end
def uptoSmall : (H : Type) → List (DataW H) → Bool := fun _ ds => decide (uptoBulkAll ds ≤ 1048576)
def OpenSpec.upto (s : _root_.Go.ChangeSpec) : _root_.Go.OpenSpec := { _root_.Go.OpenSpec.ofChange s with cond := some uptoSmall }

/-- 'laws.FnExactMendStripe', WHERE WHAT IT READS IS OF BULK AT MOST 1048576: true; the input reads as it did. -/
def fnExactMendStripeUptoRow : OpenClaim := { program := "ytlmcobjpmonkfaa", sum := "5817b79c53f07570f912045856d74b5f3364c1b89f3dd8e08b842e9e32424762", func := "loop.example/g00294/laws.FnExactMendStripe", spec := "fnExactMendStripe", unfollowed := true, recurses := true, apart := false, narrowed := true }
def FnExactMendStripeUptoSaid : Prop := fnExactMendStripeUptoRow.holds Try.pinned (OpenSpec.upto fnExactMendStripeSpec)

/-- 'laws.FnExactLocalMatrix', WHERE WHAT IT READS IS OF BULK AT MOST 1048576: true; the input reads as it did. -/
def fnExactLocalMatrixUptoRow : OpenClaim := { program := "ytlmcobjpmonkfaa", sum := "5817b79c53f07570f912045856d74b5f3364c1b89f3dd8e08b842e9e32424762", func := "loop.example/g00294/laws.FnExactLocalMatrix", spec := "fnExactLocalMatrix", unfollowed := true, recurses := true, apart := false, narrowed := true }
def FnExactLocalMatrixUptoSaid : Prop := fnExactLocalMatrixUptoRow.holds Try.pinned (OpenSpec.upto fnExactLocalMatrixSpec)

/-- 'laws.FnExactMergeStripes', WHERE WHAT IT READS IS OF BULK AT MOST 1048576: true; the input reads as it did. -/
def fnExactMergeStripesUptoRow : OpenClaim := { program := "ytlmcobjpmonkfaa", sum := "5817b79c53f07570f912045856d74b5f3364c1b89f3dd8e08b842e9e32424762", func := "loop.example/g00294/laws.FnExactMergeStripes", spec := "fnExactMergeStripes", unfollowed := true, recurses := true, apart := false, narrowed := true }
def FnExactMergeStripesUptoSaid : Prop := fnExactMergeStripesUptoRow.holds Try.pinned (OpenSpec.upto fnExactMergeStripesSpec)

/-- 'laws.FnExactProduct', WHERE WHAT IT READS IS OF BULK AT MOST 1048576: true; the input reads as it did. -/
def fnExactProductUptoRow : OpenClaim := { program := "ytlmcobjpmonkfaa", sum := "5817b79c53f07570f912045856d74b5f3364c1b89f3dd8e08b842e9e32424762", func := "loop.example/g00294/laws.FnExactProduct", spec := "fnExactProduct", unfollowed := true, recurses := true, apart := false, narrowed := true }
def FnExactProductUptoSaid : Prop := fnExactProductUptoRow.holds Try.pinned (OpenSpec.upto fnExactProductSpec)

/-- 'laws.FnExactMakeStripe', WHERE WHAT IT READS IS OF BULK AT MOST 1048576: true; the input reads as it did. -/
def fnExactMakeStripeUptoRow : OpenClaim := { program := "ytlmcobjpmonkfaa", sum := "5817b79c53f07570f912045856d74b5f3364c1b89f3dd8e08b842e9e32424762", func := "loop.example/g00294/laws.FnExactMakeStripe", spec := "fnExactMakeStripe", unfollowed := true, recurses := true, apart := false, narrowed := true }
def FnExactMakeStripeUptoSaid : Prop := fnExactMakeStripeUptoRow.holds Try.pinned (OpenSpec.upto fnExactMakeStripeSpec)

/-- 'laws.FnExactIsRight', WHERE WHAT IT READS IS OF BULK AT MOST 1048576: true; the input reads as it did. -/
def fnExactIsRightUptoRow : OpenClaim := { program := "ytlmcobjpmonkfaa", sum := "5817b79c53f07570f912045856d74b5f3364c1b89f3dd8e08b842e9e32424762", func := "loop.example/g00294/laws.FnExactIsRight", spec := "fnExactIsRight", unfollowed := true, recurses := true, apart := false, narrowed := true }
def FnExactIsRightUptoSaid : Prop := fnExactIsRightUptoRow.holds Try.pinned (OpenSpec.upto fnExactIsRightSpec)

/-- 'laws.FnExactChangeStripe', WHERE WHAT IT READS IS OF BULK AT MOST 1048576: true; the input reads as it did. -/
def fnExactChangeStripeUptoRow : OpenClaim := { program := "ytlmcobjpmonkfaa", sum := "5817b79c53f07570f912045856d74b5f3364c1b89f3dd8e08b842e9e32424762", func := "loop.example/g00294/laws.FnExactChangeStripe", spec := "fnExactChangeStripe", unfollowed := true, recurses := true, apart := false, narrowed := true }
def FnExactChangeStripeUptoSaid : Prop := fnExactChangeStripeUptoRow.holds Try.pinned (OpenSpec.upto fnExactChangeStripeSpec)

/-- 'laws.FnExactRankOf', WHERE WHAT IT READS IS OF BULK AT MOST 1048576: true; the input reads as it did. -/
def fnExactRankOfUptoRow : OpenClaim := { program := "ytlmcobjpmonkfaa", sum := "5817b79c53f07570f912045856d74b5f3364c1b89f3dd8e08b842e9e32424762", func := "loop.example/g00294/laws.FnExactRankOf", spec := "fnExactRankOf", unfollowed := true, recurses := true, apart := false, narrowed := true }
def FnExactRankOfUptoSaid : Prop := fnExactRankOfUptoRow.holds Try.pinned (OpenSpec.upto fnExactRankOfSpec)

/-- 'laws.FnExactEncodeShards', WHERE WHAT IT READS IS OF BULK AT MOST 1048576: true; the input reads as it did. -/
def fnExactEncodeShardsUptoRow : OpenClaim := { program := "ytlmcobjpmonkfaa", sum := "5817b79c53f07570f912045856d74b5f3364c1b89f3dd8e08b842e9e32424762", func := "loop.example/g00294/laws.FnExactEncodeShards", spec := "fnExactEncodeShards", unfollowed := true, recurses := true, apart := false, narrowed := true }
def FnExactEncodeShardsUptoSaid : Prop := fnExactEncodeShardsUptoRow.holds Try.pinned (OpenSpec.upto fnExactEncodeShardsSpec)

/-- 'laws.FnExactEncodeMsr', WHERE WHAT IT READS IS OF BULK AT MOST 1048576: true; the input reads as it did. -/
def fnExactEncodeMsrUptoRow : OpenClaim := { program := "ytlmcobjpmonkfaa", sum := "5817b79c53f07570f912045856d74b5f3364c1b89f3dd8e08b842e9e32424762", func := "loop.example/g00294/laws.FnExactEncodeMsr", spec := "fnExactEncodeMsr", unfollowed := true, recurses := true, apart := false, narrowed := true }
def FnExactEncodeMsrUptoSaid : Prop := fnExactEncodeMsrUptoRow.holds Try.pinned (OpenSpec.upto fnExactEncodeMsrSpec)

/-- 'laws.FnExactEncodeLocal', WHERE WHAT IT READS IS OF BULK AT MOST 1048576: true; the input reads as it did. -/
def fnExactEncodeLocalUptoRow : OpenClaim := { program := "ytlmcobjpmonkfaa", sum := "5817b79c53f07570f912045856d74b5f3364c1b89f3dd8e08b842e9e32424762", func := "loop.example/g00294/laws.FnExactEncodeLocal", spec := "fnExactEncodeLocal", unfollowed := true, recurses := true, apart := false, narrowed := true }
def FnExactEncodeLocalUptoSaid : Prop := fnExactEncodeLocalUptoRow.holds Try.pinned (OpenSpec.upto fnExactEncodeLocalSpec)

/-- 'laws.FnExactCanDecode', WHERE WHAT IT READS IS OF BULK AT MOST 1048576: true; the input reads as it did. -/
def fnExactCanDecodeUptoRow : OpenClaim := { program := "ytlmcobjpmonkfaa", sum := "5817b79c53f07570f912045856d74b5f3364c1b89f3dd8e08b842e9e32424762", func := "loop.example/g00294/laws.FnExactCanDecode", spec := "fnExactCanDecode", unfollowed := true, recurses := true, apart := false, narrowed := true }
def FnExactCanDecodeUptoSaid : Prop := fnExactCanDecodeUptoRow.holds Try.pinned (OpenSpec.upto fnExactCanDecodeSpec)

end Rows
end Go.Proofs.Ytlmcobjpmonkfaa
