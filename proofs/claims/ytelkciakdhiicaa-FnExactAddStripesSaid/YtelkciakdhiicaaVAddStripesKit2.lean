/- More words for the printed functions: lists that rise, parts of matrices; no program stands here. -/
import Derived.Test.YtelkciakdhiicaaVAddStripesKit
namespace Go.Proofs.Ytelkciakdhiicaa.Kit
open Go.RowKit Go.Proofs.YtelkciakdhiicaaW.PrintWords Go.Proofs.YtelkciakdhiicaaW.PrintLast Go.Proofs.Ytelkciakdhiicaa.Gf
set_option linter.unusedVariables false
set_option linter.unusedSimpArgs false
/-! ### Lists that rise, below n -/
end Go.Proofs.Ytelkciakdhiicaa.Kit
