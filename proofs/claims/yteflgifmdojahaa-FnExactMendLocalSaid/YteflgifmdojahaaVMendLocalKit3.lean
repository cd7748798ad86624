/- More words for the printed functions: sums of products, products of matrices; no program stands here. -/
import Derived.Test.YteflgifmdojahaaVMendLocalKit2
namespace Go.Proofs.Yteflgifmdojahaa.Kit
open Go.RowKit Go.Proofs.YteflgifmdojahaaW.PrintWords Go.Proofs.YteflgifmdojahaaW.PrintLast Go.Proofs.Yteflgifmdojahaa.Gf
set_option linter.unusedVariables false
set_option linter.unusedSimpArgs false
end Go.Proofs.Yteflgifmdojahaa.Kit
-- SQUEEZED
