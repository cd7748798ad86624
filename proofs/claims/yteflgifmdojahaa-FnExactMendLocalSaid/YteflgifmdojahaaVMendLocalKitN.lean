/- Words for contracts by hand: rows of bytes that are the call's own and may share what they lead to (form N): one row read, one row written; no program stands here. -/
import Derived.Test.YteflgifmdojahaaVMendLocalWMore
import Derived.Test.YteflgifmdojahaaVMendLocalElim
import Derived.Test.YteflgifmdojahaaVMendLocalKitW
namespace Go.Proofs.Yteflgifmdojahaa.KitN
open Go.RowKit Go.Proofs.YteflgifmdojahaaW.PrintWords Go.Proofs.YteflgifmdojahaaW.PrintLast Go.Proofs.Yteflgifmdojahaa.Gf Go.Proofs.Yteflgifmdojahaa.Kit
set_option linter.unusedVariables false
set_option linter.unusedSimpArgs false
section
variable {tu ts base g n cap : Nat} {ok ok' : Nat→Prop} {W W1 : World} {R : List (List Int)} {v : Value}
end
end Go.Proofs.Yteflgifmdojahaa.KitN
namespace Go.Proofs.Yteflgifmdojahaa.KitN
open Go.RowKit Go.Proofs.YteflgifmdojahaaW.PrintWords Go.Proofs.YteflgifmdojahaaW.PrintLast Go.Proofs.Yteflgifmdojahaa.Gf Go.Proofs.Yteflgifmdojahaa.Kit
set_option linter.unusedVariables false
set_option linter.unusedSimpArgs false
end Go.Proofs.Yteflgifmdojahaa.KitN
namespace Go.Proofs.Yteflgifmdojahaa.KitN
open Go.RowKit Go.Proofs.YteflgifmdojahaaW.PrintWords Go.Proofs.YteflgifmdojahaaW.PrintLast Go.Proofs.Yteflgifmdojahaa.Gf Go.Proofs.Yteflgifmdojahaa.Kit
set_option linter.unusedVariables false
set_option linter.unusedSimpArgs false
/-! ### A matrix with the identity beside it -/
theorem idM_length (n : Nat) : (idM n).length=n:=by simp [idM]
end Go.Proofs.Yteflgifmdojahaa.KitN
namespace Go.Proofs.Yteflgifmdojahaa.KitN
open Go.RowKit Go.Proofs.YteflgifmdojahaaW.PrintWords Go.Proofs.YteflgifmdojahaaW.PrintLast Go.Proofs.Yteflgifmdojahaa.Gf Go.Proofs.Yteflgifmdojahaa.Kit
set_option linter.unusedVariables false
set_option linter.unusedSimpArgs false
/-! ### Steps over two rows side by side, told of each side alone -/
section
variable {L L1 : List (List Int × List Int)} {k a len p : Nat}
end
end Go.Proofs.Yteflgifmdojahaa.KitN
namespace Go.Proofs.Yteflgifmdojahaa.KitN
open Go.RowKit Go.Proofs.YteflgifmdojahaaW.PrintWords Go.Proofs.YteflgifmdojahaaW.PrintLast
end Go.Proofs.Yteflgifmdojahaa.KitN
namespace Go.Proofs.Yteflgifmdojahaa.KitN
open Go.RowKit Go.Proofs.YteflgifmdojahaaW.PrintWords Go.Proofs.YteflgifmdojahaaW.PrintLast Go.Proofs.Yteflgifmdojahaa.Gf Go.Proofs.Yteflgifmdojahaa.Kit
set_option linter.unusedVariables false
section
variable {wr : World} {m : Nat}
end
end Go.Proofs.Yteflgifmdojahaa.KitN
-- SQUEEZED
