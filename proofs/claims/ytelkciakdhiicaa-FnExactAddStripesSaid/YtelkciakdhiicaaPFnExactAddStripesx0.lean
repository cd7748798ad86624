-- Laid by a program of this session.
import Derived.Test.YtelkciakdhiicaaProg
import Derived.Below
import Derived.Deep.Draws
import Derived.Deep.AppendLies
import Derived.Maps.AppendAt
import Derived.OwnWalk
import Derived.Laws.BytesArg
import Derived.Laws.MakeOwn
import Derived.Laws.OwnMore
import Derived.Deep.OwnRows
import Derived.Tactics
import Derived.Lib.ConvBytes
import Derived.Laws.Slices
import Derived.WalkKit
import Derived.KernelRfl
import Derived.RowKit3
import Derived.Deep.LoopGhost
import Derived.Deep.QuietTactic
import Derived.BigQuiet
import Derived.WideLaws
import Derived.Deep.DeepCutAuto
import Derived.Deep.CutBlock
import Derived.Deep.RegionHeld3
import Derived.Laws.Rows
import Derived.Lib.AppendStr
import Derived.ArgAppend
import Derived.Laws.IdiomCopy
import Derived.OrdersHeld
import Derived.Laws.BitsLemmas
import Derived.Shelf.Abstract
import Derived.RowKit
import Derived.Lib.Hide
import Derived.Outline
import Derived.Test.YtelkciakdhiicaaVAddStripesKit
import Derived.Test.YtelkciakdhiicaaVAddStripesKitW
import Derived.Test.YtelkciakdhiicaaVAddStripesKitX
import Derived.Test.YtelkciakdhiicaaVAddStripesWWords
import Derived.Test.YtelkciakdhiicaaVAddStripesWLast
import Derived.Test.YtelkciakdhiicaaVAddStripesWTab
import Derived.Test.YtelkciakdhiicaaVAddStripesWFour
import Derived.Test.YtelkciakdhiicaaVAddStripesWQPut
import Derived.Test.YtelkciakdhiicaaVAddStripesWApart
import Derived.Test.YtelkciakdhiicaaVAddStripesWArr
import Derived.Test.YtelkciakdhiicaaVAddStripesWZeros
import Derived.Test.YtelkciakdhiicaaVAddStripesWFoot
import Derived.Test.YtelkciakdhiicaaVAddStripesWKept
import Derived.Test.YtelkciakdhiicaaVAddStripesWShare
import Derived.Test.YtelkciakdhiicaaVAddStripesWN
import Derived.Test.YtelkciakdhiicaaVAddStripesWFootNe
import Derived.Test.YtelkciakdhiicaaVAddStripesWAt
import Derived.Test.YtelkciakdhiicaaVAddStripesWEqStruct
import Derived.Test.YtelkciakdhiicaaVAddStripesWRepsOne
import Derived.Test.YtelkciakdhiicaaVAddStripesWInv
import Derived.Test.YtelkciakdhiicaaVAddStripesWInvWords
import Derived.Test.YtelkciakdhiicaaVAddStripesWGuard
import Derived.Test.YtelkciakdhiicaaVAddStripesWNEv
import Derived.Test.YtelkciakdhiicaaVAddStripesWMore
namespace Go.Proofs.Ytelkciakdhiicaa.PFnExactAddStripes
open Go.RowKit Go.Proofs.YtelkciakdhiicaaW.PrintWords Go.Proofs.YtelkciakdhiicaaW.PrintLast Go.Proofs.YtelkciakdhiicaaW.PrintMore
attribute [local go_sem] max2_int min2_int max_two min_two max_three min_three max_four min_four   -- for this text's walks alone
set_option linter.unusedVariables false
set_option linter.unusedSimpArgs false



def errW : Option Int → Value
  | none => .nilIface
  | some c => .iface 0 (.int .i64 c)
theorem errW_none : errW none = .nilIface := rfl
theorem errW_some (c : Int) : errW (some c) = .iface 0 (.int .i64 c) := rfl

theorem info5 : (Try.prog.info? 5).map (fun i => (i.zero, i.size, i.bytes)) = some (some (.int .u8 0), 1, 1) := by kernel_rfl
theorem info9 : (Try.prog.info? 9).map (fun i => (i.zero, i.size, i.bytes)) = some (some (.string ⟨#[]⟩), 1, 16) := by kernel_rfl
-- the values' own types

end Go.Proofs.Ytelkciakdhiicaa.PFnExactAddStripes
