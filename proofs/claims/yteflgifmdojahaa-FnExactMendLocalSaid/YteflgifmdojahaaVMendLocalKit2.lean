/- More words for the printed functions: lists that rise, parts of matrices; no program stands here. -/
import Derived.Test.YteflgifmdojahaaVMendLocalKit
namespace Go.Proofs.Yteflgifmdojahaa.Kit
open Go.RowKit Go.Proofs.YteflgifmdojahaaW.PrintWords Go.Proofs.YteflgifmdojahaaW.PrintLast Go.Proofs.Yteflgifmdojahaa.Gf
set_option linter.unusedVariables false
set_option linter.unusedSimpArgs false
/-! ### Lists that rise, below n -/
def riseAt (l : List Int) (n i : Nat) : Bool:=decide ((0≤rd l (i : Int)∧rd l (i : Int)≤(n : Int) - 1)∧(i=0∨rd l ((i - 1 : Nat) : Int) < rd l (i : Int)))
def rising (l : List Int) (n : Nat) : Bool:=(List.range l.length).all fun i=>riseAt l n i
theorem riseAt_yes {l : List Int} {n i : Nat} (h : 0≤rd l (i : Int)∧rd l (i : Int)≤(n : Int) - 1) (h2 : i=0∨rd l ((i - 1 : Nat) : Int) < rd l (i : Int)) : riseAt l n i=true:=decide_eq_true ⟨h,h2⟩
theorem riseAt_no {l : List Int} {n i : Nat} (h : ¬ ((0≤rd l (i : Int)∧rd l (i : Int)≤(n : Int) - 1)∧(i=0∨rd l ((i - 1 : Nat) : Int) < rd l (i : Int)))) : riseAt l n i=false:=decide_eq_false h
theorem rising_yes {l : List Int} {n : Nat} (h : ∀ j,j < l.length→riseAt l n j=true) : rising l n=true:=by
  unfold rising
  rw [List.all_eq_true]
  exact fun x hx=>h x (by simpa using hx)
theorem rising_no {l : List Int} {n i : Nat} (hi : i < l.length) (h : riseAt l n i=false) : rising l n=false:=by
  unfold rising
  rw [List.all_eq_false]
  exact ⟨i,by simpa using hi,by rw [h];simp⟩
end Go.Proofs.Yteflgifmdojahaa.Kit
-- SQUEEZED
