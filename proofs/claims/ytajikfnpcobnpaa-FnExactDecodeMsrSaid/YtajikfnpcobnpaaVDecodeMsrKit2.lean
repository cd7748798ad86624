/- More words for the printed functions: lists that rise, parts of matrices; no program stands here. -/
import Derived.Test.YtajikfnpcobnpaaVDecodeMsrKit
namespace Go.Proofs.Ytajikfnpcobnpaa.Kit
open Go.RowKit Go.Proofs.YtajikfnpcobnpaaW.PrintWords Go.Proofs.YtajikfnpcobnpaaW.PrintLast Go.Proofs.Ytajikfnpcobnpaa.Gf
set_option linter.unusedVariables false
set_option linter.unusedSimpArgs false
/-! ### Lists that rise, below n -/
def riseAt (l : List Int) (n i : Nat) : Bool:=decide ((0≤rd l (i : Int)∧rd l (i : Int)≤(n : Int) - 1)∧(i=0∨rd l ((i - 1 : Nat) : Int) < rd l (i : Int)))
theorem riseAt_yes {l : List Int} {n i : Nat} (h : 0≤rd l (i : Int)∧rd l (i : Int)≤(n : Int) - 1) (h2 : i=0∨rd l ((i - 1 : Nat) : Int) < rd l (i : Int)) : riseAt l n i=true:=decide_eq_true ⟨h,h2⟩
theorem riseAt_no {l : List Int} {n i : Nat} (h : ¬ ((0≤rd l (i : Int)∧rd l (i : Int)≤(n : Int) - 1)∧(i=0∨rd l ((i - 1 : Nat) : Int) < rd l (i : Int)))) : riseAt l n i=false:=decide_eq_false h
end Go.Proofs.Ytajikfnpcobnpaa.Kit
-- SQUEEZED
