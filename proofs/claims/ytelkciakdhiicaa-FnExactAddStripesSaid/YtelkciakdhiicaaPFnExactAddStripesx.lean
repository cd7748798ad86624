-- Laid by a program of this session.
import Derived.Test.YtelkciakdhiicaaPFnExactAddStripesx0
import Derived.Test.YtelkciakdhiicaaPFnExactAddStripesx1
import Derived.Test.YtelkciakdhiicaaPFnExactAddStripesx2
import Derived.Test.YtelkciakdhiicaaPFnExactAddStripesx3
import Derived.Test.YtelkciakdhiicaaPFnExactAddStripesx4
import Derived.Test.YtelkciakdhiicaaPFnExactAddStripesx5
import Derived.Test.YtelkciakdhiicaaPFnExactAddStripesx6
import Derived.Test.YtelkciakdhiicaaPFnExactAddStripesx7
import Derived.Test.YtelkciakdhiicaaPFnExactAddStripesx8
namespace Go.Proofs.Ytelkciakdhiicaa.PFnExactAddStripes
open Go.RowKit Go.Proofs.YtelkciakdhiicaaW.PrintWords Go.Proofs.YtelkciakdhiicaaW.PrintLast Go.Proofs.YtelkciakdhiicaaW.PrintMore
attribute [local go_sem] max2_int min2_int max_two min_two max_three min_three max_four min_four   -- for this text's walks alone
set_option linter.unusedVariables false
set_option linter.unusedSimpArgs false

end Go.Proofs.Ytelkciakdhiicaa.PFnExactAddStripes
