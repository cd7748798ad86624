-- Laid by a program of this session.
import Derived.Test.YthadpdoefhldnaaPFnExactIdentityx0
import Derived.Test.YthadpdoefhldnaaPFnExactIdentityx1
import Derived.Test.YthadpdoefhldnaaPFnExactIdentityx2
namespace Go.Proofs.Ythadpdoefhldnaa.PFnExactIdentity
open Go.RowKit Go.Proofs.YthadpdoefhldnaaW.PrintWords Go.Proofs.YthadpdoefhldnaaW.PrintLast Go.Proofs.YthadpdoefhldnaaW.PrintMore
attribute [local go_sem] max2_int min2_int max_two min_two max_three min_three max_four min_four   -- for this text's walks alone
set_option linter.unusedVariables false
set_option linter.unusedSimpArgs false

end Go.Proofs.Ythadpdoefhldnaa.PFnExactIdentity
