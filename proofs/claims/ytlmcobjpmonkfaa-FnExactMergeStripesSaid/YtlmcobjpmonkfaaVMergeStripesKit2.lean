/- More words for the printed functions: lists that rise, parts of matrices; no program stands here. -/
import Derived.Test.YtlmcobjpmonkfaaVMergeStripesKit
namespace Go.Proofs.Ytlmcobjpmonkfaa.Kit
open Go.RowKit Go.Proofs.YtlmcobjpmonkfaaW.PrintWords Go.Proofs.YtlmcobjpmonkfaaW.PrintLast Go.Proofs.Ytlmcobjpmonkfaa.Gf
set_option linter.unusedVariables false
set_option linter.unusedSimpArgs false
/-! ### Lists that rise, below n -/
end Go.Proofs.Ytlmcobjpmonkfaa.Kit
