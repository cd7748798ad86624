-- Laid by a program of this session.
import Derived.Test.YtlmcobjpmonkfaaPFnExactProductx0
import Derived.Test.YtlmcobjpmonkfaaPFnExactProductx1
import Derived.Test.YtlmcobjpmonkfaaPFnExactProductx2
import Derived.Test.YtlmcobjpmonkfaaPFnExactProductx3
import Derived.Test.YtlmcobjpmonkfaaPFnExactProductx4
import Derived.Test.YtlmcobjpmonkfaaPFnExactProductx5
import Derived.Test.YtlmcobjpmonkfaaPFnExactProductx6
import Derived.Test.YtlmcobjpmonkfaaPFnExactProductx7
import Derived.Test.YtlmcobjpmonkfaaPFnExactProductx8
namespace Go.Proofs.Ytlmcobjpmonkfaa.PFnExactProduct
open Go.RowKit Go.Proofs.YtlmcobjpmonkfaaW.PrintWords Go.Proofs.YtlmcobjpmonkfaaW.PrintLast Go.Proofs.YtlmcobjpmonkfaaW.PrintMore
attribute [local go_sem] max2_int min2_int max_two min_two max_three min_three max_four min_four   -- for this text's walks alone
set_option linter.unusedVariables false
set_option linter.unusedSimpArgs false

end Go.Proofs.Ytlmcobjpmonkfaa.PFnExactProduct
