/- Words for contracts by hand: text as bytes, the first place at which something holds; no program stands here. -/
import Derived.Test.YtajikfnpcobnpaaVDecodeMsrWMore
import Derived.Lib.ConvBytes
import Derived.Laws.BytesArg
import Derived.Laws.AppendOwn
import Derived.Lib.SliceRun
namespace Go.Proofs.Ytajikfnpcobnpaa.KitW
open Go.RowKit Go.Proofs.YtajikfnpcobnpaaW.PrintWords Go.Proofs.YtajikfnpcobnpaaW.PrintLast
set_option linter.unusedVariables false
set_option linter.unusedSimpArgs false
theorem drawn_trans {a b c : World} (h : Drawn0 a b) (k : Drawn0 b c) : Drawn0 a c:=by
  obtain ⟨q,rfl⟩:=k.out
  exact Drawn0.step h q
/-- The first place below n at which p holds, -1 if there is none. -/
def IdxOf (p : Nat→Bool) (n : Nat) (r : Int) : Prop:=(r = -1∧∀ i,i < n→p i=false)∨∃ i : Nat,i < n∧r=(i : Int)∧p i=true∧∀ j,j < i→p j=false
theorem idxOf_nonneg {p : Nat→Bool} {n : Nat} {r : Int} (h : IdxOf p n r) : decide (r ≥ 0)=(List.range n).any p:=by
  rcases h with ⟨rfl,h⟩ | ⟨i,hi,rfl,hp,_⟩
  · have : (List.range n).any p=false:=by
      rw [List.any_eq_false]
      intro x hx
      rw [h x (by simpa using hx)]
      simp
    rw [this];rfl
  · have : (List.range n).any p=true:=List.any_eq_true.2 ⟨i,by simpa using hi,hp⟩
    rw [this];simp
/-- Texts of one length, which is not too great? -/
def textsOk (l : List ByteArray) : Bool:=!((List.range l.length).any fun i=>decide (40 < (l.getD i ByteArray.empty).size) || (l.getD i ByteArray.empty).size != (l.getD 0 ByteArray.empty).size)
end Go.Proofs.Ytajikfnpcobnpaa.KitW
-- SQUEEZED
