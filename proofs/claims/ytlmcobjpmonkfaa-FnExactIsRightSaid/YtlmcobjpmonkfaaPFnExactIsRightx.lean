-- Laid by a program of this session.
import Derived.Test.YtlmcobjpmonkfaaPFnExactIsRightx0
import Derived.Test.YtlmcobjpmonkfaaPFnExactIsRightx1
import Derived.Test.YtlmcobjpmonkfaaPFnExactIsRightx2
import Derived.Test.YtlmcobjpmonkfaaPFnExactIsRightx3
import Derived.Test.YtlmcobjpmonkfaaPFnExactIsRightx4
import Derived.Test.YtlmcobjpmonkfaaPFnExactIsRightx5
import Derived.Test.YtlmcobjpmonkfaaPFnExactIsRightx6
import Derived.Test.YtlmcobjpmonkfaaPFnExactIsRightx7
import Derived.Test.YtlmcobjpmonkfaaPFnExactIsRightx8
namespace Go.Proofs.Ytlmcobjpmonkfaa.PFnExactIsRight
open Go.RowKit Go.Proofs.YtlmcobjpmonkfaaW.PrintWords Go.Proofs.YtlmcobjpmonkfaaW.PrintLast Go.Proofs.YtlmcobjpmonkfaaW.PrintMore
attribute [local go_sem] max2_int min2_int max_two min_two max_three min_three max_four min_four   -- for this text's walks alone
set_option linter.unusedVariables false
set_option linter.unusedSimpArgs false

end Go.Proofs.Ytlmcobjpmonkfaa.PFnExactIsRight
