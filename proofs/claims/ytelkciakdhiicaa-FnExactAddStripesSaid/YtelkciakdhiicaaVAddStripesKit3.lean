/- More words for the printed functions: sums of products, products of matrices; no program stands here. -/
import Derived.Test.YtelkciakdhiicaaVAddStripesKit2
namespace Go.Proofs.Ytelkciakdhiicaa.Kit
open Go.RowKit Go.Proofs.YtelkciakdhiicaaW.PrintWords Go.Proofs.YtelkciakdhiicaaW.PrintLast Go.Proofs.Ytelkciakdhiicaa.Gf
set_option linter.unusedVariables false
set_option linter.unusedSimpArgs false
end Go.Proofs.Ytelkciakdhiicaa.Kit
