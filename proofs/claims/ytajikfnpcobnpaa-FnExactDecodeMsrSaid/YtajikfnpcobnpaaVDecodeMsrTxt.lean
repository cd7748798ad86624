/- Words for texts: their bytes, their sums and products, what marks them; no program stands here. -/
import Derived.Test.YtajikfnpcobnpaaVDecodeMsrElim
import Derived.Test.YtajikfnpcobnpaaVDecodeMsrKitW
namespace Go.Proofs.Ytajikfnpcobnpaa.Kit
open Go.RowKit Go.Proofs.YtajikfnpcobnpaaW.PrintWords Go.Proofs.YtajikfnpcobnpaaW.PrintLast Go.Proofs.Ytajikfnpcobnpaa.Gf Go.Proofs.Ytajikfnpcobnpaa.KitW
set_option linter.unusedVariables false
set_option linter.unusedSimpArgs false
/-- A text of a list. -/
abbrev txt (l : List ByteArray) (i : Nat) : ByteArray:=l.getD i ByteArray.empty
theorem txt_get {l : List ByteArray} {i : Nat} (h : i < l.length) : txt l i=l[i]:=by simp [txt,List.getD,h]
theorem txt_mem {l : List ByteArray} {i : Nat} (h : i < l.length) : txt l i ∈ l:=by rw [txt_get h];exact List.getElem_mem h
/-- Texts that are not too many, and not too long. -/
def textsLe (n : Nat) (l : List ByteArray) : Prop:=l.length≤n∧∀ s ∈ l,s.size≤n
theorem textsLe.txt {n : Nat} {l : List ByteArray} (h : textsLe n l) (i : Nat) : (txt l i).size≤n:=by
  by_cases hi : i < l.length
  · exact h.2 _ (txt_mem hi)
  · simp [Kit.txt,List.getD,hi]
theorem textsLe.append {n m : Nat} {a b : List ByteArray} (ha : textsLe n a) (hb : textsLe m b) : textsLe (n+m) (a ++ b):=by
  refine ⟨by have:=ha.1;have:=hb.1;simp;omega,fun s hs=>?_⟩
  rcases List.mem_append.1 hs with h | h
  · have:=ha.2 s h;omega
  · have:=hb.2 s h;omega
/-- The digits of a number, behind a letter. -/
def mtl : Nat→Nat→List Int→List Int
  | 0,_,s=>109 :: s
  | f+1,x,s=>if x=0 then 109 :: s else mtl f (x / 10) ((48+(x % 10 : Nat) : Int) :: s)
def mtx (a : Int) : ByteArray:=if a≤0 then strOfNums [109,48] else strOfNums (mtl 20 a.toNat [])
def markTS (a : Int) (n : Nat) : List ByteArray:=(List.range n).map fun i=>mtx (a+(i : Nat))
theorem markTS_length (a : Int) (n : Nat) : (markTS a n).length=n:=by simp [markTS]
/-- Are texts those of a stripe? -/
def goodStripe (D P : List ByteArray) : Bool:=decide ((1≤(D.length : Int)∧(D.length : Int)≤16)∧1≤(P.length : Int)∧(P.length : Int)≤4) && textsOk (D ++ P)
theorem idM_length (n : Nat) : (idM n).length=n:=by simp [idM]
def alike (D P E Q : List ByteArray) : Bool:=goodStripe D P && (goodStripe E Q && (decide (P.length=Q.length) && decide ((txt D 0).size=(txt E 0).size)))
end Go.Proofs.Ytajikfnpcobnpaa.Kit
-- SQUEEZED
