-- Laid by a program of this session.
import Derived.Test.YtajikfnpcobnpaaPFnExactSolvex0
import Derived.Test.YtajikfnpcobnpaaPFnExactSolvex1
import Derived.Test.YtajikfnpcobnpaaPFnExactSolvex2
import Derived.Test.YtajikfnpcobnpaaPFnExactSolvex3
import Derived.Test.YtajikfnpcobnpaaPFnExactSolvex4
import Derived.Test.YtajikfnpcobnpaaPFnExactSolvex5
import Derived.Test.YtajikfnpcobnpaaPFnExactSolvex6
import Derived.Test.YtajikfnpcobnpaaPFnExactSolvex7
import Derived.Test.YtajikfnpcobnpaaPFnExactSolvex8
import Derived.Test.YtajikfnpcobnpaaPFnExactSolvex9
import Derived.Test.YtajikfnpcobnpaaPFnExactSolvex10
import Derived.Test.YtajikfnpcobnpaaPFnExactSolvex11
import Derived.Test.YtajikfnpcobnpaaPFnExactSolvex12
import Derived.Test.YtajikfnpcobnpaaPFnExactSolvex13
namespace Go.Proofs.Ytajikfnpcobnpaa.PFnExactSolve
open Go.RowKit Go.Proofs.YtajikfnpcobnpaaW.PrintWords Go.Proofs.YtajikfnpcobnpaaW.PrintLast Go.Proofs.YtajikfnpcobnpaaW.PrintMore
attribute [local go_sem] max2_int min2_int max_two min_two max_three min_three max_four min_four   -- for this text's walks alone
set_option linter.unusedVariables false
set_option linter.unusedSimpArgs false

end Go.Proofs.Ytajikfnpcobnpaa.PFnExactSolve
