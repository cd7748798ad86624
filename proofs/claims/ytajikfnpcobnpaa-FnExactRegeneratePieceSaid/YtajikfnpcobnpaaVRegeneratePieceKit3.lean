/- More words for the printed functions: sums of products, products of matrices; no program stands here. -/
import Derived.Test.YtajikfnpcobnpaaVRegeneratePieceKit2
namespace Go.Proofs.Ytajikfnpcobnpaa.Kit
open Go.RowKit Go.Proofs.YtajikfnpcobnpaaW.PrintWords Go.Proofs.YtajikfnpcobnpaaW.PrintLast Go.Proofs.Ytajikfnpcobnpaa.Gf
set_option linter.unusedVariables false
set_option linter.unusedSimpArgs false
/-- Rows of bytes. -/
def matBytes (l : List (List Int)) : Prop:=∀ r ∈ l,Bytes r
theorem bytes_getD {l : List Int} (h : Bytes l) (i : Nat) : Byte (l.getD i 0):=by
  by_cases hi : i < l.length
  · have e : l.getD i 0=l[i]:=by simp [List.getD,hi]
    rw [e];exact h _ (List.getElem_mem hi)
  · have e : l.getD i 0=0:=by simp [List.getD,hi]
    rw [e];exact Byte.zero
end Go.Proofs.Ytajikfnpcobnpaa.Kit
-- SQUEEZED
