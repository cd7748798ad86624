-- Laid by a program of this session.
import Derived.Test.YtajikfnpcobnpaaPFnExactRankOfx0
import Derived.Test.YtajikfnpcobnpaaPFnExactRankOfx1
import Derived.Test.YtajikfnpcobnpaaPFnExactRankOfx2
import Derived.Test.YtajikfnpcobnpaaPFnExactRankOfx3
import Derived.Test.YtajikfnpcobnpaaPFnExactRankOfx4
import Derived.Test.YtajikfnpcobnpaaPFnExactRankOfx5
import Derived.Test.YtajikfnpcobnpaaPFnExactRankOfx6
import Derived.Test.YtajikfnpcobnpaaPFnExactRankOfx7
import Derived.Test.YtajikfnpcobnpaaPFnExactRankOfx8
namespace Go.Proofs.Ytajikfnpcobnpaa.PFnExactRankOf
open Go.RowKit Go.Proofs.YtajikfnpcobnpaaW.PrintWords Go.Proofs.YtajikfnpcobnpaaW.PrintLast Go.Proofs.YtajikfnpcobnpaaW.PrintMore
attribute [local go_sem] max2_int min2_int max_two min_two max_three min_three max_four min_four   -- for this text's walks alone
set_option linter.unusedVariables false
set_option linter.unusedSimpArgs false

end Go.Proofs.Ytajikfnpcobnpaa.PFnExactRankOf
