/-
  No cell of these rows narrows 'for every input' (looked for: loops, veiled, ifaces, maps, wideKeys, modest, calm, conditions, laid).
  DERIVED. THE GIVEN ROWS OF THIS SEAT. 12 by the template 'for every input the law returns true; each argument reads behind the call as it read before'; 0 by the template 'total and deterministic' (their statements: YthadpdoefhldnaaTotals.lean).
  GIVEN WITH THE SEED: the statements are not yours to turn. If you find one false, say at which input.
  Laid BY PROGRAM, IN A SANDBOX (cutbox-rows.mjs): the forced cells as the released guide's own fill.sh prints them over the translation 6bae72d86db46df7… (all of the seat's roots in one cut). By AI agents, Wed Nov 11 2026. No macro, syntax, notation, axiom, sorry.
-/
import Derived.Test.YthadpdoefhldnaaChecked
import GoSem.Claim
import GoSem.ClaimJoined
import GoSem.ClaimMapViews
import Derived.JoinedTies
import Derived.KernelRfl
namespace Go.Proofs.Ythadpdoefhldnaa
/- THE CELL 'sum', in the pinned program and in every row, IS THE sha256 OF THE DUMP (.gsa) THAT YthadpdoefhldnaaProg.lean LOADS. Nothing in Lean hashes anything: it is a label: what it is worth is what the hold of that sum in a sandbox is worth. -/
noncomputable def Try.pinned : Pinned := { name := "ythadpdoefhldnaa", sum := "6bae72d86db46df734e0e967d148d532c2e719efd79c24d43ee87a9f7be0244b", checked := Try.checked }
namespace Rows
def none {H : Type} : Left H := { results := [], args := [] }

/-- 'laws.FnExactPolyAt': WHATEVER THE INPUT: true; the input reads as it did. -/
def fnExactPolyAtSpec : ChangeSpec := { name := "fnExactPolyAt", fn := fun _ => fun
  | [d1, d2] => { results := [.lit (.bool true)], args := [d1, d2] }
  | _ => none }
def fnExactPolyAtRow : OpenClaim := { program := "ythadpdoefhldnaa", sum := "6bae72d86db46df734e0e967d148d532c2e719efd79c24d43ee87a9f7be0244b", func := "loop.example/g00294/laws.FnExactPolyAt", spec := "fnExactPolyAt", apart := false }
def FnExactPolyAtSaid : Prop := fnExactPolyAtRow.holds Try.pinned (OpenSpec.ofChange fnExactPolyAtSpec)

/-- ITS FALSE NEIGHBOUR: 'it returns false'. Refute it at one input. -/
def fnExactPolyAtWrong : ChangeSpec := { name := "fnExactPolyAt", fn := fun _ => fun
  | [d1, d2] => { results := [.lit (.bool false)], args := [d1, d2] }
  | _ => none }
def FnExactPolyAtWrongFalsely : Prop := fnExactPolyAtRow.holds Try.pinned (OpenSpec.ofChange fnExactPolyAtWrong)

/-- 'laws.FnExactScaleVector': WHATEVER THE INPUT: true; the input reads as it did. -/
def fnExactScaleVectorSpec : ChangeSpec := { name := "fnExactScaleVector", fn := fun _ => fun
  | [d1, d2] => { results := [.lit (.bool true)], args := [d1, d2] }
  | _ => none }
def fnExactScaleVectorRow : OpenClaim := { program := "ythadpdoefhldnaa", sum := "6bae72d86db46df734e0e967d148d532c2e719efd79c24d43ee87a9f7be0244b", func := "loop.example/g00294/laws.FnExactScaleVector", spec := "fnExactScaleVector", apart := false }
def FnExactScaleVectorSaid : Prop := fnExactScaleVectorRow.holds Try.pinned (OpenSpec.ofChange fnExactScaleVectorSpec)

/-- ITS FALSE NEIGHBOUR: 'it returns false'. Refute it at one input. -/
def fnExactScaleVectorWrong : ChangeSpec := { name := "fnExactScaleVector", fn := fun _ => fun
  | [d1, d2] => { results := [.lit (.bool false)], args := [d1, d2] }
  | _ => none }
def FnExactScaleVectorWrongFalsely : Prop := fnExactScaleVectorRow.holds Try.pinned (OpenSpec.ofChange fnExactScaleVectorWrong)

/-- 'laws.FnExactHelpersOf': WHATEVER THE INPUT: true; the input reads as it did. -/
def fnExactHelpersOfSpec : ChangeSpec := { name := "fnExactHelpersOf", fn := fun _ => fun
  | [d1, d2] => { results := [.lit (.bool true)], args := [d1, d2] }
  | _ => none }
def fnExactHelpersOfRow : OpenClaim := { program := "ythadpdoefhldnaa", sum := "6bae72d86db46df734e0e967d148d532c2e719efd79c24d43ee87a9f7be0244b", func := "loop.example/g00294/laws.FnExactHelpersOf", spec := "fnExactHelpersOf", apart := false }
def FnExactHelpersOfSaid : Prop := fnExactHelpersOfRow.holds Try.pinned (OpenSpec.ofChange fnExactHelpersOfSpec)

/-- ITS FALSE NEIGHBOUR: 'it returns false'. Refute it at one input. -/
def fnExactHelpersOfWrong : ChangeSpec := { name := "fnExactHelpersOf", fn := fun _ => fun
  | [d1, d2] => { results := [.lit (.bool false)], args := [d1, d2] }
  | _ => none }
def FnExactHelpersOfWrongFalsely : Prop := fnExactHelpersOfRow.holds Try.pinned (OpenSpec.ofChange fnExactHelpersOfWrong)

/-- 'laws.FnExactGoodStripe': WHATEVER THE INPUT: true; the input reads as it did. -/
def fnExactGoodStripeSpec : ChangeSpec := { name := "fnExactGoodStripe", fn := fun _ => fun
  | [d] => { results := [.lit (.bool true)], args := [d] }
  | _ => none }
def fnExactGoodStripeRow : OpenClaim := { program := "ythadpdoefhldnaa", sum := "6bae72d86db46df734e0e967d148d532c2e719efd79c24d43ee87a9f7be0244b", func := "loop.example/g00294/laws.FnExactGoodStripe", spec := "fnExactGoodStripe", unfollowed := true, recurses := true, apart := false }
def FnExactGoodStripeSaid : Prop := fnExactGoodStripeRow.holds Try.pinned (OpenSpec.ofChange fnExactGoodStripeSpec)

/-- ITS FALSE NEIGHBOUR: 'it returns false'. Refute it at one input. -/
def fnExactGoodStripeWrong : ChangeSpec := { name := "fnExactGoodStripe", fn := fun _ => fun
  | [d] => { results := [.lit (.bool false)], args := [d] }
  | _ => none }
def FnExactGoodStripeWrongFalsely : Prop := fnExactGoodStripeRow.holds Try.pinned (OpenSpec.ofChange fnExactGoodStripeWrong)

/-- 'laws.FnExactGoodMatrix': WHATEVER THE INPUT: true; the input reads as it did. -/
def fnExactGoodMatrixSpec : ChangeSpec := { name := "fnExactGoodMatrix", fn := fun _ => fun
  | [d] => { results := [.lit (.bool true)], args := [d] }
  | _ => none }
def fnExactGoodMatrixRow : OpenClaim := { program := "ythadpdoefhldnaa", sum := "6bae72d86db46df734e0e967d148d532c2e719efd79c24d43ee87a9f7be0244b", func := "loop.example/g00294/laws.FnExactGoodMatrix", spec := "fnExactGoodMatrix", unfollowed := true, recurses := true, apart := false }
def FnExactGoodMatrixSaid : Prop := fnExactGoodMatrixRow.holds Try.pinned (OpenSpec.ofChange fnExactGoodMatrixSpec)

/-- ITS FALSE NEIGHBOUR: 'it returns false'. Refute it at one input. -/
def fnExactGoodMatrixWrong : ChangeSpec := { name := "fnExactGoodMatrix", fn := fun _ => fun
  | [d] => { results := [.lit (.bool false)], args := [d] }
  | _ => none }
def FnExactGoodMatrixWrongFalsely : Prop := fnExactGoodMatrixRow.holds Try.pinned (OpenSpec.ofChange fnExactGoodMatrixWrong)

/-- 'laws.FnExactIdentity': WHATEVER THE INPUT: true; the input reads as it did. -/
def fnExactIdentitySpec : ChangeSpec := { name := "fnExactIdentity", fn := fun _ => fun
  | [d] => { results := [.lit (.bool true)], args := [d] }
  | _ => none }
def fnExactIdentityRow : OpenClaim := { program := "ythadpdoefhldnaa", sum := "6bae72d86db46df734e0e967d148d532c2e719efd79c24d43ee87a9f7be0244b", func := "loop.example/g00294/laws.FnExactIdentity", spec := "fnExactIdentity", apart := false }
def FnExactIdentitySaid : Prop := fnExactIdentityRow.holds Try.pinned (OpenSpec.ofChange fnExactIdentitySpec)

/-- ITS FALSE NEIGHBOUR: 'it returns false'. Refute it at one input. -/
def fnExactIdentityWrong : ChangeSpec := { name := "fnExactIdentity", fn := fun _ => fun
  | [d] => { results := [.lit (.bool false)], args := [d] }
  | _ => none }
def FnExactIdentityWrongFalsely : Prop := fnExactIdentityRow.holds Try.pinned (OpenSpec.ofChange fnExactIdentityWrong)

/-- 'laws.FnExactAddShares': WHATEVER THE INPUT: true; the input reads as it did. -/
def fnExactAddSharesSpec : ChangeSpec := { name := "fnExactAddShares", fn := fun _ => fun
  | [d1, d2] => { results := [.lit (.bool true)], args := [d1, d2] }
  | _ => none }
def fnExactAddSharesRow : OpenClaim := { program := "ythadpdoefhldnaa", sum := "6bae72d86db46df734e0e967d148d532c2e719efd79c24d43ee87a9f7be0244b", func := "loop.example/g00294/laws.FnExactAddShares", spec := "fnExactAddShares", unfollowed := true, recurses := true, apart := false }
def FnExactAddSharesSaid : Prop := fnExactAddSharesRow.holds Try.pinned (OpenSpec.ofChange fnExactAddSharesSpec)

/-- ITS FALSE NEIGHBOUR: 'it returns false'. Refute it at one input. -/
def fnExactAddSharesWrong : ChangeSpec := { name := "fnExactAddShares", fn := fun _ => fun
  | [d1, d2] => { results := [.lit (.bool false)], args := [d1, d2] }
  | _ => none }
def FnExactAddSharesWrongFalsely : Prop := fnExactAddSharesRow.holds Try.pinned (OpenSpec.ofChange fnExactAddSharesWrong)

/-- 'laws.FnField': WHATEVER THE INPUT: true; the input reads as it did. -/
def fnFieldSpec : ChangeSpec := { name := "fnField", fn := fun _ => fun
  | [d1, d2] => { results := [.lit (.bool true)], args := [d1, d2] }
  | _ => none }
def fnFieldRow : OpenClaim := { program := "ythadpdoefhldnaa", sum := "6bae72d86db46df734e0e967d148d532c2e719efd79c24d43ee87a9f7be0244b", func := "loop.example/g00294/laws.FnField", spec := "fnField", apart := false }
def FnFieldSaid : Prop := fnFieldRow.holds Try.pinned (OpenSpec.ofChange fnFieldSpec)

/-- ITS FALSE NEIGHBOUR: 'it returns false'. Refute it at one input. -/
def fnFieldWrong : ChangeSpec := { name := "fnField", fn := fun _ => fun
  | [d1, d2] => { results := [.lit (.bool false)], args := [d1, d2] }
  | _ => none }
def FnFieldWrongFalsely : Prop := fnFieldRow.holds Try.pinned (OpenSpec.ofChange fnFieldWrong)

/-- 'laws.FnExactShareSecret': WHATEVER THE INPUT: true; the input reads as it did. -/
def fnExactShareSecretSpec : ChangeSpec := { name := "fnExactShareSecret", fn := fun _ => fun
  | [d1, d2, d3] => { results := [.lit (.bool true)], args := [d1, d2, d3] }
  | _ => none }
def fnExactShareSecretRow : OpenClaim := { program := "ythadpdoefhldnaa", sum := "6bae72d86db46df734e0e967d148d532c2e719efd79c24d43ee87a9f7be0244b", func := "loop.example/g00294/laws.FnExactShareSecret", spec := "fnExactShareSecret", apart := false }
def FnExactShareSecretSaid : Prop := fnExactShareSecretRow.holds Try.pinned (OpenSpec.ofChange fnExactShareSecretSpec)

/-- ITS FALSE NEIGHBOUR: 'it returns false'. Refute it at one input. -/
def fnExactShareSecretWrong : ChangeSpec := { name := "fnExactShareSecret", fn := fun _ => fun
  | [d1, d2, d3] => { results := [.lit (.bool false)], args := [d1, d2, d3] }
  | _ => none }
def FnExactShareSecretWrongFalsely : Prop := fnExactShareSecretRow.holds Try.pinned (OpenSpec.ofChange fnExactShareSecretWrong)

/-- 'laws.FnExactMsrRow': WHATEVER THE INPUT: true; the input reads as it did. -/
def fnExactMsrRowSpec : ChangeSpec := { name := "fnExactMsrRow", fn := fun _ => fun
  | [d1, d2] => { results := [.lit (.bool true)], args := [d1, d2] }
  | _ => none }
def fnExactMsrRowRow : OpenClaim := { program := "ythadpdoefhldnaa", sum := "6bae72d86db46df734e0e967d148d532c2e719efd79c24d43ee87a9f7be0244b", func := "loop.example/g00294/laws.FnExactMsrRow", spec := "fnExactMsrRow", apart := false }
def FnExactMsrRowSaid : Prop := fnExactMsrRowRow.holds Try.pinned (OpenSpec.ofChange fnExactMsrRowSpec)

/-- ITS FALSE NEIGHBOUR: 'it returns false'. Refute it at one input. -/
def fnExactMsrRowWrong : ChangeSpec := { name := "fnExactMsrRow", fn := fun _ => fun
  | [d1, d2] => { results := [.lit (.bool false)], args := [d1, d2] }
  | _ => none }
def FnExactMsrRowWrongFalsely : Prop := fnExactMsrRowRow.holds Try.pinned (OpenSpec.ofChange fnExactMsrRowWrong)

/-- 'laws.FnExactInterpolate': WHATEVER THE INPUT: true; the input reads as it did. -/
def fnExactInterpolateSpec : ChangeSpec := { name := "fnExactInterpolate", fn := fun _ => fun
  | [d1, d2] => { results := [.lit (.bool true)], args := [d1, d2] }
  | _ => none }
def fnExactInterpolateRow : OpenClaim := { program := "ythadpdoefhldnaa", sum := "6bae72d86db46df734e0e967d148d532c2e719efd79c24d43ee87a9f7be0244b", func := "loop.example/g00294/laws.FnExactInterpolate", spec := "fnExactInterpolate", apart := false }
def FnExactInterpolateSaid : Prop := fnExactInterpolateRow.holds Try.pinned (OpenSpec.ofChange fnExactInterpolateSpec)

/-- ITS FALSE NEIGHBOUR: 'it returns false'. Refute it at one input. -/
def fnExactInterpolateWrong : ChangeSpec := { name := "fnExactInterpolate", fn := fun _ => fun
  | [d1, d2] => { results := [.lit (.bool false)], args := [d1, d2] }
  | _ => none }
def FnExactInterpolateWrongFalsely : Prop := fnExactInterpolateRow.holds Try.pinned (OpenSpec.ofChange fnExactInterpolateWrong)

/-- 'laws.FnExactJoinShards': WHATEVER THE INPUT: true; the input reads as it did. -/
def fnExactJoinShardsSpec : ChangeSpec := { name := "fnExactJoinShards", fn := fun _ => fun
  | [d1, d2] => { results := [.lit (.bool true)], args := [d1, d2] }
  | _ => none }
def fnExactJoinShardsRow : OpenClaim := { program := "ythadpdoefhldnaa", sum := "6bae72d86db46df734e0e967d148d532c2e719efd79c24d43ee87a9f7be0244b", func := "loop.example/g00294/laws.FnExactJoinShards", spec := "fnExactJoinShards", inPlace := ["internal/abi.NoEscape", "internal/bytealg.MakeNoZero"], unfollowed := true, recurses := true, apart := false }
def FnExactJoinShardsSaid : Prop := fnExactJoinShardsRow.holds Try.pinned (OpenSpec.ofChange fnExactJoinShardsSpec)

/-- ITS FALSE NEIGHBOUR: 'it returns false'. Refute it at one input. -/
def fnExactJoinShardsWrong : ChangeSpec := { name := "fnExactJoinShards", fn := fun _ => fun
  | [d1, d2] => { results := [.lit (.bool false)], args := [d1, d2] }
  | _ => none }
def FnExactJoinShardsWrongFalsely : Prop := fnExactJoinShardsRow.holds Try.pinned (OpenSpec.ofChange fnExactJoinShardsWrong)

/- THE SECOND FORM. 'bulk': how many values and letters a reading holds, each counted each time it is reached (what is shared counts as often as it is met; a slice's spare places count too). A statement '..UptoSaid' is the law's where the arguments, and the package variables that the reading takes, are together of bulk at most 1048576: NARROWER than '..Said'. Prove '..Said' where nothing that the law and all that it calls make is longer than what came in: it says more and counts as full. Else prove '..UptoSaid'. A law counts once. -/
mutual
def uptoBulk {H : Type} : DataW H → Nat
  | .lit (.string bytes) => bytes.length + 1
  | .lit _ => 1
  | .nil => 1
  | .ptr d => uptoBulk d + 1
  | .slice elems spare => uptoBulkAll elems + uptoBulkAll spare + 1
  | .agg parts => uptoBulkAll parts + 1
  | .iface _ d => uptoBulk d + 1
  | .map entries => uptoBulkEntries entries + 1
  | .held _ => 1
def uptoBulkAll {H : Type} : List (DataW H) → Nat
  | [] => 0
  | d :: r => uptoBulk d + uptoBulkAll r
def uptoBulkEntries {H : Type} : List (Lit × DataW H) → Nat
  | [] => 0
  | x :: r => uptoBulkEntry x + uptoBulkEntries r
def uptoBulkEntry {H : Type} : Lit × DataW H → Nat
  | (.string bytes, d) => bytes.length + uptoBulk d + 1
  | (_, d) => uptoBulk d + 1
 end
def uptoSmall : (H : Type) → List (DataW H) → Bool := fun _ ds => decide (uptoBulkAll ds ≤ 1048576)
def OpenSpec.upto (s : _root_.Go.ChangeSpec) : _root_.Go.OpenSpec := { _root_.Go.OpenSpec.ofChange s with cond := some uptoSmall }

/-- 'laws.FnExactPolyAt', WHERE WHAT IT READS IS OF BULK AT MOST 1048576: true; the input reads as it did. -/
def fnExactPolyAtUptoRow : OpenClaim := { program := "ythadpdoefhldnaa", sum := "6bae72d86db46df734e0e967d148d532c2e719efd79c24d43ee87a9f7be0244b", func := "loop.example/g00294/laws.FnExactPolyAt", spec := "fnExactPolyAt", apart := false, narrowed := true }
def FnExactPolyAtUptoSaid : Prop := fnExactPolyAtUptoRow.holds Try.pinned (OpenSpec.upto fnExactPolyAtSpec)

/-- 'laws.FnExactScaleVector', WHERE WHAT IT READS IS OF BULK AT MOST 1048576: true; the input reads as it did. -/
def fnExactScaleVectorUptoRow : OpenClaim := { program := "ythadpdoefhldnaa", sum := "6bae72d86db46df734e0e967d148d532c2e719efd79c24d43ee87a9f7be0244b", func := "loop.example/g00294/laws.FnExactScaleVector", spec := "fnExactScaleVector", apart := false, narrowed := true }
def FnExactScaleVectorUptoSaid : Prop := fnExactScaleVectorUptoRow.holds Try.pinned (OpenSpec.upto fnExactScaleVectorSpec)

/-- 'laws.FnExactHelpersOf', WHERE WHAT IT READS IS OF BULK AT MOST 1048576: true; the input reads as it did. -/
def fnExactHelpersOfUptoRow : OpenClaim := { program := "ythadpdoefhldnaa", sum := "6bae72d86db46df734e0e967d148d532c2e719efd79c24d43ee87a9f7be0244b", func := "loop.example/g00294/laws.FnExactHelpersOf", spec := "fnExactHelpersOf", apart := false, narrowed := true }
def FnExactHelpersOfUptoSaid : Prop := fnExactHelpersOfUptoRow.holds Try.pinned (OpenSpec.upto fnExactHelpersOfSpec)

/-- 'laws.FnExactGoodStripe', WHERE WHAT IT READS IS OF BULK AT MOST 1048576: true; the input reads as it did. -/
def fnExactGoodStripeUptoRow : OpenClaim := { program := "ythadpdoefhldnaa", sum := "6bae72d86db46df734e0e967d148d532c2e719efd79c24d43ee87a9f7be0244b", func := "loop.example/g00294/laws.FnExactGoodStripe", spec := "fnExactGoodStripe", unfollowed := true, recurses := true, apart := false, narrowed := true }
def FnExactGoodStripeUptoSaid : Prop := fnExactGoodStripeUptoRow.holds Try.pinned (OpenSpec.upto fnExactGoodStripeSpec)

/-- 'laws.FnExactGoodMatrix', WHERE WHAT IT READS IS OF BULK AT MOST 1048576: true; the input reads as it did. -/
def fnExactGoodMatrixUptoRow : OpenClaim := { program := "ythadpdoefhldnaa", sum := "6bae72d86db46df734e0e967d148d532c2e719efd79c24d43ee87a9f7be0244b", func := "loop.example/g00294/laws.FnExactGoodMatrix", spec := "fnExactGoodMatrix", unfollowed := true, recurses := true, apart := false, narrowed := true }
def FnExactGoodMatrixUptoSaid : Prop := fnExactGoodMatrixUptoRow.holds Try.pinned (OpenSpec.upto fnExactGoodMatrixSpec)

/-- 'laws.FnExactIdentity', WHERE WHAT IT READS IS OF BULK AT MOST 1048576: true; the input reads as it did. -/
def fnExactIdentityUptoRow : OpenClaim := { program := "ythadpdoefhldnaa", sum := "6bae72d86db46df734e0e967d148d532c2e719efd79c24d43ee87a9f7be0244b", func := "loop.example/g00294/laws.FnExactIdentity", spec := "fnExactIdentity", apart := false, narrowed := true }
def FnExactIdentityUptoSaid : Prop := fnExactIdentityUptoRow.holds Try.pinned (OpenSpec.upto fnExactIdentitySpec)

/-- 'laws.FnExactAddShares', WHERE WHAT IT READS IS OF BULK AT MOST 1048576: true; the input reads as it did. -/
def fnExactAddSharesUptoRow : OpenClaim := { program := "ythadpdoefhldnaa", sum := "6bae72d86db46df734e0e967d148d532c2e719efd79c24d43ee87a9f7be0244b", func := "loop.example/g00294/laws.FnExactAddShares", spec := "fnExactAddShares", unfollowed := true, recurses := true, apart := false, narrowed := true }
def FnExactAddSharesUptoSaid : Prop := fnExactAddSharesUptoRow.holds Try.pinned (OpenSpec.upto fnExactAddSharesSpec)

/-- 'laws.FnField', WHERE WHAT IT READS IS OF BULK AT MOST 1048576: true; the input reads as it did. -/
def fnFieldUptoRow : OpenClaim := { program := "ythadpdoefhldnaa", sum := "6bae72d86db46df734e0e967d148d532c2e719efd79c24d43ee87a9f7be0244b", func := "loop.example/g00294/laws.FnField", spec := "fnField", apart := false, narrowed := true }
def FnFieldUptoSaid : Prop := fnFieldUptoRow.holds Try.pinned (OpenSpec.upto fnFieldSpec)

/-- 'laws.FnExactShareSecret', WHERE WHAT IT READS IS OF BULK AT MOST 1048576: true; the input reads as it did. -/
def fnExactShareSecretUptoRow : OpenClaim := { program := "ythadpdoefhldnaa", sum := "6bae72d86db46df734e0e967d148d532c2e719efd79c24d43ee87a9f7be0244b", func := "loop.example/g00294/laws.FnExactShareSecret", spec := "fnExactShareSecret", apart := false, narrowed := true }
def FnExactShareSecretUptoSaid : Prop := fnExactShareSecretUptoRow.holds Try.pinned (OpenSpec.upto fnExactShareSecretSpec)

/-- 'laws.FnExactMsrRow', WHERE WHAT IT READS IS OF BULK AT MOST 1048576: true; the input reads as it did. -/
def fnExactMsrRowUptoRow : OpenClaim := { program := "ythadpdoefhldnaa", sum := "6bae72d86db46df734e0e967d148d532c2e719efd79c24d43ee87a9f7be0244b", func := "loop.example/g00294/laws.FnExactMsrRow", spec := "fnExactMsrRow", apart := false, narrowed := true }
def FnExactMsrRowUptoSaid : Prop := fnExactMsrRowUptoRow.holds Try.pinned (OpenSpec.upto fnExactMsrRowSpec)

/-- 'laws.FnExactInterpolate', WHERE WHAT IT READS IS OF BULK AT MOST 1048576: true; the input reads as it did. -/
def fnExactInterpolateUptoRow : OpenClaim := { program := "ythadpdoefhldnaa", sum := "6bae72d86db46df734e0e967d148d532c2e719efd79c24d43ee87a9f7be0244b", func := "loop.example/g00294/laws.FnExactInterpolate", spec := "fnExactInterpolate", apart := false, narrowed := true }
def FnExactInterpolateUptoSaid : Prop := fnExactInterpolateUptoRow.holds Try.pinned (OpenSpec.upto fnExactInterpolateSpec)

/-- 'laws.FnExactJoinShards', WHERE WHAT IT READS IS OF BULK AT MOST 1048576: true; the input reads as it did. -/
def fnExactJoinShardsUptoRow : OpenClaim := { program := "ythadpdoefhldnaa", sum := "6bae72d86db46df734e0e967d148d532c2e719efd79c24d43ee87a9f7be0244b", func := "loop.example/g00294/laws.FnExactJoinShards", spec := "fnExactJoinShards", inPlace := ["internal/abi.NoEscape", "internal/bytealg.MakeNoZero"], unfollowed := true, recurses := true, apart := false, narrowed := true }
def FnExactJoinShardsUptoSaid : Prop := fnExactJoinShardsUptoRow.holds Try.pinned (OpenSpec.upto fnExactJoinShardsSpec)

end Rows
end Go.Proofs.Ythadpdoefhldnaa
