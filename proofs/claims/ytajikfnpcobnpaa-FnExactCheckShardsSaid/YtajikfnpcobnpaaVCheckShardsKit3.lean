/- More words for the printed functions: sums of products, products of matrices; no program stands here. -/
import Derived.Test.YtajikfnpcobnpaaVCheckShardsKit2
namespace Go.Proofs.Ytajikfnpcobnpaa.Kit
open Go.RowKit Go.Proofs.YtajikfnpcobnpaaW.PrintWords Go.Proofs.YtajikfnpcobnpaaW.PrintLast Go.Proofs.Ytajikfnpcobnpaa.Gf
set_option linter.unusedVariables false
set_option linter.unusedSimpArgs false
/-- Rows of bytes. -/
def matBytes (l : List (List Int)) : Prop:=∀ r ∈ l,Bytes r
theorem bytes_getD {l : List Int} (h : Bytes l) (i : Nat) : Byte (l.getD i 0):=by
  by_cases hi : i < l.length
  · have e : l.getD i 0=l[i]:=by simp [List.getD,hi]
    rw [e];exact h _ (List.getElem_mem hi)
  · have e : l.getD i 0=0:=by simp [List.getD,hi]
    rw [e];exact Byte.zero
theorem tab_bytes {n m : Nat} {f : Nat→Nat→Int} (h : ∀ i,i < n→∀ j,j < m→Byte (f i j)) : matBytes (tab n m f):=by
  intro r hr
  simp only [tab,List.mem_map] at hr
  obtain ⟨i,hi,rfl⟩:=hr
  intro x hx
  simp only [List.mem_map] at hx
  obtain ⟨j,hj,rfl⟩:=hx
  exact h i (by simpa using hi) j (by simpa using hj)
theorem row_self {l : List Int} {n : Nat} (h : l.length=n) : l=(List.range n).map fun j=>l.getD j 0:=by
  apply List.ext_getElem
  · simp [h]
  · intro j h1 h2
    simp [List.getD,h1]
/-- Rows, told place by place up to one place, zero behind it. -/
def filPart (n m : Nat) (f : Nat→Nat→Int) (i j : Nat) : List (List Int):=tab n m fun a b=>if a < i∨a=i∧b < j then f a b else 0
theorem filPart_zero (n m : Nat) (f : Nat→Nat→Int) : blankM n m=filPart n m f 0 0:=by
  rw [tab_blank]
  apply tab_congr
  intro a ha b hb
  rw [if_neg (by omega)]
theorem filPart_all (n m : Nat) (f : Nat→Nat→Int) : filPart n m f n 0=tab n m f:=by
  apply tab_congr
  intro a ha b hb
  rw [if_pos (by omega)]
theorem filPart_next (n m : Nat) (f : Nat→Nat→Int) (i : Nat) : filPart n m f i m=filPart n m f (i+1) 0:=by
  apply tab_congr
  intro a ha b hb
  by_cases h : a < i∨a=i∧b < m
  · rw [if_pos h,if_pos (by omega)]
  · rw [if_neg h,if_neg (by omega)]
theorem filPart_set {n m : Nat} (f : Nat→Nat→Int) {i j : Nat} (hi : i < n) : (filPart n m f i j).set i (((filPart n m f i j).getD i []).set j (f i j))=filPart n m f i (j+1):=by
  unfold filPart
  rw [tab_set hi]
  apply tab_congr
  intro a ha b hb
  by_cases h : a=i∧b=j
  · obtain ⟨rfl,rfl⟩:=h
    rw [if_pos ⟨rfl,rfl⟩,if_pos (by omega)]
  · rw [if_neg h]
    by_cases h2 : a < i∨a=i∧b < j
    · rw [if_pos h2,if_pos (by omega)]
    · rw [if_neg h2,if_neg (by omega)]
theorem filPart_length (n m : Nat) (f : Nat→Nat→Int) (i j : Nat) : (filPart n m f i j).length=n:=tab_length _ _ _
theorem filPart_row {n m : Nat} {f : Nat→Nat→Int} {i j a : Nat} (h : a < n) : ((filPart n m f i j).getD a []).length=m:=tab_getD_length h
end Go.Proofs.Ytajikfnpcobnpaa.Kit
-- SQUEEZED
