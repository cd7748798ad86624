-- Laid by a program of this session.
import Derived.Test.YtlmcobjpmonkfaaProg
import Derived.Below
import Derived.Deep.Draws
import Derived.Deep.AppendLies
import Derived.Maps.AppendAt
import Derived.OwnWalk
import Derived.Laws.BytesArg
import Derived.Laws.MakeOwn
import Derived.Laws.OwnMore
import Derived.Deep.OwnRows
import Derived.Tactics
import Derived.Lib.ConvBytes
import Derived.Laws.Slices
import Derived.WalkKit
import Derived.KernelRfl
import Derived.RowKit3
import Derived.Deep.LoopGhost
import Derived.Deep.QuietTactic
import Derived.BigQuiet
import Derived.WideLaws
import Derived.Deep.DeepCutAuto
import Derived.Deep.CutBlock
import Derived.Deep.RegionHeld3
import Derived.Laws.Rows
import Derived.Lib.AppendStr
import Derived.ArgAppend
import Derived.Laws.IdiomCopy
import Derived.OrdersHeld
import Derived.Laws.BitsLemmas
import Derived.Shelf.Abstract
import Derived.RowKit
import Derived.Lib.Hide
import Derived.Outline
import Derived.Test.YtlmcobjpmonkfaaVMergeStripesKit
import Derived.Test.YtlmcobjpmonkfaaVMergeStripesKitW
import Derived.Test.YtlmcobjpmonkfaaVMergeStripesKitX
import Derived.Test.YtlmcobjpmonkfaaVMergeStripesWWords
import Derived.Test.YtlmcobjpmonkfaaVMergeStripesWLast
import Derived.Test.YtlmcobjpmonkfaaVMergeStripesWTab
import Derived.Test.YtlmcobjpmonkfaaVMergeStripesWFour
import Derived.Test.YtlmcobjpmonkfaaVMergeStripesWQPut
import Derived.Test.YtlmcobjpmonkfaaVMergeStripesWApart
import Derived.Test.YtlmcobjpmonkfaaVMergeStripesWArr
import Derived.Test.YtlmcobjpmonkfaaVMergeStripesWZeros
import Derived.Test.YtlmcobjpmonkfaaVMergeStripesWFoot
import Derived.Test.YtlmcobjpmonkfaaVMergeStripesWKept
import Derived.Test.YtlmcobjpmonkfaaVMergeStripesWShare
import Derived.Test.YtlmcobjpmonkfaaVMergeStripesWN
import Derived.Test.YtlmcobjpmonkfaaVMergeStripesWFootNe
import Derived.Test.YtlmcobjpmonkfaaVMergeStripesWAt
import Derived.Test.YtlmcobjpmonkfaaVMergeStripesWEqStruct
import Derived.Test.YtlmcobjpmonkfaaVMergeStripesWRepsOne
import Derived.Test.YtlmcobjpmonkfaaVMergeStripesWInv
import Derived.Test.YtlmcobjpmonkfaaVMergeStripesWInvWords
import Derived.Test.YtlmcobjpmonkfaaVMergeStripesWGuard
import Derived.Test.YtlmcobjpmonkfaaVMergeStripesWNEv
import Derived.Test.YtlmcobjpmonkfaaVMergeStripesWMore
namespace Go.Proofs.Ytlmcobjpmonkfaa.PFnExactMergeStripes
open Go.RowKit Go.Proofs.YtlmcobjpmonkfaaW.PrintWords Go.Proofs.YtlmcobjpmonkfaaW.PrintLast Go.Proofs.YtlmcobjpmonkfaaW.PrintMore
attribute [local go_sem] max2_int min2_int max_two min_two max_three min_three max_four min_four   -- for this text's walks alone
set_option linter.unusedVariables false
set_option linter.unusedSimpArgs false



def errW : Option Int → Value
  | none => .nilIface
  | some c => .iface 0 (.int .i64 c)
theorem errW_none : errW none = .nilIface := rfl
theorem errW_some (c : Int) : errW (some c) = .iface 0 (.int .i64 c) := rfl

theorem info5 : (Try.prog.info? 5).map (fun i => (i.zero, i.size, i.bytes)) = some (some (.int .u8 0), 1, 1) := by kernel_rfl
theorem info9 : (Try.prog.info? 9).map (fun i => (i.zero, i.size, i.bytes)) = some (some (.string ⟨#[]⟩), 1, 16) := by kernel_rfl
-- the values' own types

end Go.Proofs.Ytlmcobjpmonkfaa.PFnExactMergeStripes
