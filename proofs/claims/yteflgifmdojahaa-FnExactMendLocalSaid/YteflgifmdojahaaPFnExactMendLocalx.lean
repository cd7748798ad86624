-- Laid by a program of this session.
import Derived.Test.YteflgifmdojahaaPFnExactMendLocalx0
import Derived.Test.YteflgifmdojahaaPFnExactMendLocalx1
import Derived.Test.YteflgifmdojahaaPFnExactMendLocalx2
import Derived.Test.YteflgifmdojahaaPFnExactMendLocalx3
import Derived.Test.YteflgifmdojahaaPFnExactMendLocalx4
import Derived.Test.YteflgifmdojahaaPFnExactMendLocalx5
import Derived.Test.YteflgifmdojahaaPFnExactMendLocalx6
import Derived.Test.YteflgifmdojahaaPFnExactMendLocalx7
import Derived.Test.YteflgifmdojahaaPFnExactMendLocalx8
import Derived.Test.YteflgifmdojahaaPFnExactMendLocalx9
namespace Go.Proofs.Yteflgifmdojahaa.PFnExactMendLocal
open Go.RowKit Go.Proofs.YteflgifmdojahaaW.PrintWords Go.Proofs.YteflgifmdojahaaW.PrintLast Go.Proofs.YteflgifmdojahaaW.PrintMore
attribute [local go_sem] max2_int min2_int max_two min_two max_three min_three max_four min_four   -- for this text's walks alone
set_option linter.unusedVariables false
set_option linter.unusedSimpArgs false

end Go.Proofs.Yteflgifmdojahaa.PFnExactMendLocal
