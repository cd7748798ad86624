-- Laid by a program of this session.
import Derived.Test.YteflgifmdojahaaPFnExactMessageOfx0
import Derived.Test.YteflgifmdojahaaPFnExactMessageOfx1
import Derived.Test.YteflgifmdojahaaPFnExactMessageOfx2
import Derived.Test.YteflgifmdojahaaPFnExactMessageOfx3
import Derived.Test.YteflgifmdojahaaPFnExactMessageOfx4
import Derived.Test.YteflgifmdojahaaPFnExactMessageOfx5
namespace Go.Proofs.Yteflgifmdojahaa.PFnExactMessageOf
open Go.RowKit Go.Proofs.YteflgifmdojahaaW.PrintWords Go.Proofs.YteflgifmdojahaaW.PrintLast Go.Proofs.YteflgifmdojahaaW.PrintMore
attribute [local go_sem] max2_int min2_int max_two min_two max_three min_three max_four min_four   -- for this text's walks alone
set_option linter.unusedVariables false
set_option linter.unusedSimpArgs false

end Go.Proofs.Yteflgifmdojahaa.PFnExactMessageOf
