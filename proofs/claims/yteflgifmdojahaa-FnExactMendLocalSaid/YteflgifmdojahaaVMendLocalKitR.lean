/- Words for drawn regions that are walked by hand: what has come up as a list of numbers, what comes next told ahead; no program stands here. -/
import Derived.Test.YteflgifmdojahaaVMendLocalWMore
import Derived.Test.YteflgifmdojahaaVMendLocalWTab
namespace Go.Proofs.Yteflgifmdojahaa.KitR
open Go.RowKit Go.Proofs.YteflgifmdojahaaW.PrintWords Go.Proofs.YteflgifmdojahaaW.PrintLast
set_option linter.unusedVariables false
set_option linter.unusedSimpArgs false
section
variable {P : Program} {md : Region.Mode} {ops : Array Oper} {Q : Exit→Act→World→Prop} {S : World→Prop} {ds : List Nat} {T : Bool × List (List Nat × List Nat)} {B : List Nat}
end
end Go.Proofs.Yteflgifmdojahaa.KitR
-- SQUEEZED
