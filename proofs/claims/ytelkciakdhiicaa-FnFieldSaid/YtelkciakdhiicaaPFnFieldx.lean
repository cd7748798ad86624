-- Laid by a program of this session.
import Derived.Test.YtelkciakdhiicaaPFnFieldx0
import Derived.Test.YtelkciakdhiicaaPFnFieldx1
import Derived.Test.YtelkciakdhiicaaPFnFieldx2
import Derived.Test.YtelkciakdhiicaaPFnFieldx3
namespace Go.Proofs.Ytelkciakdhiicaa.PFnField
open Go.RowKit Go.Proofs.YtelkciakdhiicaaW.PrintWords Go.Proofs.YtelkciakdhiicaaW.PrintLast Go.Proofs.YtelkciakdhiicaaW.PrintMore
attribute [local go_sem] max2_int min2_int max_two min_two max_three min_three max_four min_four   -- for this text's walks alone
set_option linter.unusedVariables false
set_option linter.unusedSimpArgs false

end Go.Proofs.Ytelkciakdhiicaa.PFnField
