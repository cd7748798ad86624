import Derived.Test.YtajikfnpcobnpaaPFnMatricesx0
import Derived.Test.YtajikfnpcobnpaaPFnMatricesx1
import Derived.Test.YtajikfnpcobnpaaPFnMatricesx2
import Derived.Test.YtajikfnpcobnpaaPFnMatricesx3
import Derived.Test.YtajikfnpcobnpaaPFnMatricesx4
import Derived.Test.YtajikfnpcobnpaaPFnMatricesx5
import Derived.Test.YtajikfnpcobnpaaPFnMatricesx6
namespace Go.Proofs.Ytajikfnpcobnpaa.PFnMatrices
open Go.RowKit Go.Proofs.YtajikfnpcobnpaaW.PrintWords Go.Proofs.YtajikfnpcobnpaaW.PrintLast Go.Proofs.YtajikfnpcobnpaaW.PrintMore
attribute [local go_sem] max2_int min2_int max_two min_two max_three min_three max_four min_four
set_option linter.unusedVariables false
set_option linter.unusedSimpArgs false
end Go.Proofs.Ytajikfnpcobnpaa.PFnMatrices
-- SQUEEZED
