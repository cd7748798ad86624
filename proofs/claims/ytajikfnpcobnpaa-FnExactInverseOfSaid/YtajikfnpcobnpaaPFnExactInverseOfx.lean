-- Laid by a program of this session.
import Derived.Test.YtajikfnpcobnpaaPFnExactInverseOfx0
import Derived.Test.YtajikfnpcobnpaaPFnExactInverseOfx1
import Derived.Test.YtajikfnpcobnpaaPFnExactInverseOfx2
import Derived.Test.YtajikfnpcobnpaaPFnExactInverseOfx3
import Derived.Test.YtajikfnpcobnpaaPFnExactInverseOfx4
import Derived.Test.YtajikfnpcobnpaaPFnExactInverseOfx5
import Derived.Test.YtajikfnpcobnpaaPFnExactInverseOfx6
import Derived.Test.YtajikfnpcobnpaaPFnExactInverseOfx7
import Derived.Test.YtajikfnpcobnpaaPFnExactInverseOfx8
import Derived.Test.YtajikfnpcobnpaaPFnExactInverseOfx9
import Derived.Test.YtajikfnpcobnpaaPFnExactInverseOfx10
import Derived.Test.YtajikfnpcobnpaaPFnExactInverseOfx11
namespace Go.Proofs.Ytajikfnpcobnpaa.PFnExactInverseOf
open Go.RowKit Go.Proofs.YtajikfnpcobnpaaW.PrintWords Go.Proofs.YtajikfnpcobnpaaW.PrintLast Go.Proofs.YtajikfnpcobnpaaW.PrintMore
attribute [local go_sem] max2_int min2_int max_two min_two max_three min_three max_four min_four   -- for this text's walks alone
set_option linter.unusedVariables false
set_option linter.unusedSimpArgs false

end Go.Proofs.Ytajikfnpcobnpaa.PFnExactInverseOf
