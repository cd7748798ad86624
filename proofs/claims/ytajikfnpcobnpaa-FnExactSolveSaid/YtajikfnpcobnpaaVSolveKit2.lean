/- More words for the printed functions: lists that rise, parts of matrices; no program stands here. -/
import Derived.Test.YtajikfnpcobnpaaVSolveKit
namespace Go.Proofs.Ytajikfnpcobnpaa.Kit
open Go.RowKit Go.Proofs.YtajikfnpcobnpaaW.PrintWords Go.Proofs.YtajikfnpcobnpaaW.PrintLast Go.Proofs.Ytajikfnpcobnpaa.Gf
set_option linter.unusedVariables false
set_option linter.unusedSimpArgs false
/-! ### Lists that rise, below n -/
end Go.Proofs.Ytajikfnpcobnpaa.Kit
