-- Laid by a program of this session.
import Derived.Test.YtggiajjnfldkgaaPFnExactVandermondex0
import Derived.Test.YtggiajjnfldkgaaPFnExactVandermondex1
import Derived.Test.YtggiajjnfldkgaaPFnExactVandermondex2
import Derived.Test.YtggiajjnfldkgaaPFnExactVandermondex3
namespace Go.Proofs.Ytggiajjnfldkgaa.PFnExactVandermonde
open Go.RowKit Go.Proofs.YtggiajjnfldkgaaW.PrintWords Go.Proofs.YtggiajjnfldkgaaW.PrintLast Go.Proofs.YtggiajjnfldkgaaW.PrintMore
attribute [local go_sem] max2_int min2_int max_two min_two max_three min_three max_four min_four   -- for this text's walks alone
set_option linter.unusedVariables false
set_option linter.unusedSimpArgs false

end Go.Proofs.Ytggiajjnfldkgaa.PFnExactVandermonde
