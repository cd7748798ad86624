-- Laid by a program of this session.
import Derived.Test.YtlmcobjpmonkfaaPFnExactChangeStripex0
import Derived.Test.YtlmcobjpmonkfaaPFnExactChangeStripex1
import Derived.Test.YtlmcobjpmonkfaaPFnExactChangeStripex2
import Derived.Test.YtlmcobjpmonkfaaPFnExactChangeStripex3
import Derived.Test.YtlmcobjpmonkfaaPFnExactChangeStripex4
import Derived.Test.YtlmcobjpmonkfaaPFnExactChangeStripex5
import Derived.Test.YtlmcobjpmonkfaaPFnExactChangeStripex6
import Derived.Test.YtlmcobjpmonkfaaPFnExactChangeStripex7
import Derived.Test.YtlmcobjpmonkfaaPFnExactChangeStripex8
import Derived.Test.YtlmcobjpmonkfaaPFnExactChangeStripex9
namespace Go.Proofs.Ytlmcobjpmonkfaa.PFnExactChangeStripe
open Go.RowKit Go.Proofs.YtlmcobjpmonkfaaW.PrintWords Go.Proofs.YtlmcobjpmonkfaaW.PrintLast Go.Proofs.YtlmcobjpmonkfaaW.PrintMore
attribute [local go_sem] max2_int min2_int max_two min_two max_three min_three max_four min_four   -- for this text's walks alone
set_option linter.unusedVariables false
set_option linter.unusedSimpArgs false

end Go.Proofs.Ytlmcobjpmonkfaa.PFnExactChangeStripe
