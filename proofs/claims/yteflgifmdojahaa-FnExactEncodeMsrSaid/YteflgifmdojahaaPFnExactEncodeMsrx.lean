-- Laid by a program of this session.
import Derived.Test.YteflgifmdojahaaPFnExactEncodeMsrx0
import Derived.Test.YteflgifmdojahaaPFnExactEncodeMsrx1
import Derived.Test.YteflgifmdojahaaPFnExactEncodeMsrx2
import Derived.Test.YteflgifmdojahaaPFnExactEncodeMsrx3
import Derived.Test.YteflgifmdojahaaPFnExactEncodeMsrx4
import Derived.Test.YteflgifmdojahaaPFnExactEncodeMsrx5
import Derived.Test.YteflgifmdojahaaPFnExactEncodeMsrx6
import Derived.Test.YteflgifmdojahaaPFnExactEncodeMsrx7
import Derived.Test.YteflgifmdojahaaPFnExactEncodeMsrx8
import Derived.Test.YteflgifmdojahaaPFnExactEncodeMsrx9
namespace Go.Proofs.Yteflgifmdojahaa.PFnExactEncodeMsr
open Go.RowKit Go.Proofs.YteflgifmdojahaaW.PrintWords Go.Proofs.YteflgifmdojahaaW.PrintLast Go.Proofs.YteflgifmdojahaaW.PrintMore
attribute [local go_sem] max2_int min2_int max_two min_two max_three min_three max_four min_four   -- for this text's walks alone
set_option linter.unusedVariables false
set_option linter.unusedSimpArgs false

end Go.Proofs.Yteflgifmdojahaa.PFnExactEncodeMsr
