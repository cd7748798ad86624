-- Laid by a program of this session.
import Derived.Test.YtlmcobjpmonkfaaPFnExactMergeStripesx0
import Derived.Test.YtlmcobjpmonkfaaPFnExactMergeStripesx1
import Derived.Test.YtlmcobjpmonkfaaPFnExactMergeStripesx2
import Derived.Test.YtlmcobjpmonkfaaPFnExactMergeStripesx3
import Derived.Test.YtlmcobjpmonkfaaPFnExactMergeStripesx4
import Derived.Test.YtlmcobjpmonkfaaPFnExactMergeStripesx5
import Derived.Test.YtlmcobjpmonkfaaPFnExactMergeStripesx6
import Derived.Test.YtlmcobjpmonkfaaPFnExactMergeStripesx7
import Derived.Test.YtlmcobjpmonkfaaPFnExactMergeStripesx8
import Derived.Test.YtlmcobjpmonkfaaPFnExactMergeStripesx9
namespace Go.Proofs.Ytlmcobjpmonkfaa.PFnExactMergeStripes
open Go.RowKit Go.Proofs.YtlmcobjpmonkfaaW.PrintWords Go.Proofs.YtlmcobjpmonkfaaW.PrintLast Go.Proofs.YtlmcobjpmonkfaaW.PrintMore
attribute [local go_sem] max2_int min2_int max_two min_two max_three min_three max_four min_four   -- for this text's walks alone
set_option linter.unusedVariables false
set_option linter.unusedSimpArgs false

end Go.Proofs.Ytlmcobjpmonkfaa.PFnExactMergeStripes
