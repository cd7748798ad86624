/- More words for the printed functions: sums of products, products of matrices; no program stands here. -/
import Derived.Test.YtlmcobjpmonkfaaVMergeStripesKit2
namespace Go.Proofs.Ytlmcobjpmonkfaa.Kit
open Go.RowKit Go.Proofs.YtlmcobjpmonkfaaW.PrintWords Go.Proofs.YtlmcobjpmonkfaaW.PrintLast Go.Proofs.Ytlmcobjpmonkfaa.Gf
set_option linter.unusedVariables false
set_option linter.unusedSimpArgs false
end Go.Proofs.Ytlmcobjpmonkfaa.Kit
