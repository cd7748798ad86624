-- Laid by a program of this session.
import Derived.Test.YtelkciakdhiicaaPFnVectorsx0
import Derived.Test.YtelkciakdhiicaaPFnVectorsx1
import Derived.Test.YtelkciakdhiicaaPFnVectorsx2
import Derived.Test.YtelkciakdhiicaaPFnVectorsx3
import Derived.Test.YtelkciakdhiicaaPFnVectorsx4
namespace Go.Proofs.Ytelkciakdhiicaa.PFnVectors
open Go.RowKit Go.Proofs.YtelkciakdhiicaaW.PrintWords Go.Proofs.YtelkciakdhiicaaW.PrintLast Go.Proofs.YtelkciakdhiicaaW.PrintMore
attribute [local go_sem] max2_int min2_int max_two min_two max_three min_three max_four min_four   -- for this text's walks alone
set_option linter.unusedVariables false
set_option linter.unusedSimpArgs false

end Go.Proofs.Ytelkciakdhiicaa.PFnVectors
