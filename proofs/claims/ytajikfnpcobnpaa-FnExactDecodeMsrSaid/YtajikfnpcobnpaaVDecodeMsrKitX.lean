/- Words for contracts by hand, over what the words of the print know of rows: rows of rows laid behind one another; no program stands here. -/
import Derived.Test.YtajikfnpcobnpaaVDecodeMsrWMore
namespace Go.Proofs.Ytajikfnpcobnpaa.KitX
open Go.RowKit Go.Proofs.YtajikfnpcobnpaaW.PrintWords Go.Proofs.YtajikfnpcobnpaaW.PrintLast
set_option linter.unusedVariables false
set_option linter.unusedSimpArgs false
section
variable {α : Type} {P : Program} {ops : Array Oper} {rest : List Oper} {o : Oper} {a : Act} {Q : Exit→Act→World→Prop} {Kc : Act→World→Prop}
end
end Go.Proofs.Ytajikfnpcobnpaa.KitX
-- SQUEEZED
