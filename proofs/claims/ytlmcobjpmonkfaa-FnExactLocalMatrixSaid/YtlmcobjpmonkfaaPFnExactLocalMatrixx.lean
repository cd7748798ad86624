-- Laid by a program of this session.
import Derived.Test.YtlmcobjpmonkfaaPFnExactLocalMatrixx0
import Derived.Test.YtlmcobjpmonkfaaPFnExactLocalMatrixx1
import Derived.Test.YtlmcobjpmonkfaaPFnExactLocalMatrixx2
import Derived.Test.YtlmcobjpmonkfaaPFnExactLocalMatrixx3
import Derived.Test.YtlmcobjpmonkfaaPFnExactLocalMatrixx4
import Derived.Test.YtlmcobjpmonkfaaPFnExactLocalMatrixx5
import Derived.Test.YtlmcobjpmonkfaaPFnExactLocalMatrixx6
namespace Go.Proofs.Ytlmcobjpmonkfaa.PFnExactLocalMatrix
open Go.RowKit Go.Proofs.YtlmcobjpmonkfaaW.PrintWords Go.Proofs.YtlmcobjpmonkfaaW.PrintLast Go.Proofs.YtlmcobjpmonkfaaW.PrintMore
attribute [local go_sem] max2_int min2_int max_two min_two max_three min_three max_four min_four   -- for this text's walks alone
set_option linter.unusedVariables false
set_option linter.unusedSimpArgs false

end Go.Proofs.Ytlmcobjpmonkfaa.PFnExactLocalMatrix
