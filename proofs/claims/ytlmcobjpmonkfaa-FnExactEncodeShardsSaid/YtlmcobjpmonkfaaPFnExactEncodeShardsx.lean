-- Laid by a program of this session.
import Derived.Test.YtlmcobjpmonkfaaPFnExactEncodeShardsx0
import Derived.Test.YtlmcobjpmonkfaaPFnExactEncodeShardsx1
import Derived.Test.YtlmcobjpmonkfaaPFnExactEncodeShardsx2
import Derived.Test.YtlmcobjpmonkfaaPFnExactEncodeShardsx3
import Derived.Test.YtlmcobjpmonkfaaPFnExactEncodeShardsx4
import Derived.Test.YtlmcobjpmonkfaaPFnExactEncodeShardsx5
import Derived.Test.YtlmcobjpmonkfaaPFnExactEncodeShardsx6
import Derived.Test.YtlmcobjpmonkfaaPFnExactEncodeShardsx7
import Derived.Test.YtlmcobjpmonkfaaPFnExactEncodeShardsx8
namespace Go.Proofs.Ytlmcobjpmonkfaa.PFnExactEncodeShards
open Go.RowKit Go.Proofs.YtlmcobjpmonkfaaW.PrintWords Go.Proofs.YtlmcobjpmonkfaaW.PrintLast Go.Proofs.YtlmcobjpmonkfaaW.PrintMore
attribute [local go_sem] max2_int min2_int max_two min_two max_three min_three max_four min_four   -- for this text's walks alone
set_option linter.unusedVariables false
set_option linter.unusedSimpArgs false

end Go.Proofs.Ytlmcobjpmonkfaa.PFnExactEncodeShards
