-- Laid by a program of this session.
import Derived.Test.YtlmcobjpmonkfaaPFnExactMakeStripex0
import Derived.Test.YtlmcobjpmonkfaaPFnExactMakeStripex1
import Derived.Test.YtlmcobjpmonkfaaPFnExactMakeStripex2
import Derived.Test.YtlmcobjpmonkfaaPFnExactMakeStripex3
import Derived.Test.YtlmcobjpmonkfaaPFnExactMakeStripex4
import Derived.Test.YtlmcobjpmonkfaaPFnExactMakeStripex5
import Derived.Test.YtlmcobjpmonkfaaPFnExactMakeStripex6
import Derived.Test.YtlmcobjpmonkfaaPFnExactMakeStripex7
namespace Go.Proofs.Ytlmcobjpmonkfaa.PFnExactMakeStripe
open Go.RowKit Go.Proofs.YtlmcobjpmonkfaaW.PrintWords Go.Proofs.YtlmcobjpmonkfaaW.PrintLast Go.Proofs.YtlmcobjpmonkfaaW.PrintMore
attribute [local go_sem] max2_int min2_int max_two min_two max_three min_three max_four min_four   -- for this text's walks alone
set_option linter.unusedVariables false
set_option linter.unusedSimpArgs false

end Go.Proofs.Ytlmcobjpmonkfaa.PFnExactMakeStripe
