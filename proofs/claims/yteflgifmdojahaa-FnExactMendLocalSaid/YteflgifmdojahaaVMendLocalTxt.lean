/- Words for texts: their bytes, their sums and products, what marks them; no program stands here. -/
import Derived.Test.YteflgifmdojahaaVMendLocalElim
import Derived.Test.YteflgifmdojahaaVMendLocalKitW
namespace Go.Proofs.Yteflgifmdojahaa.Kit
open Go.RowKit Go.Proofs.YteflgifmdojahaaW.PrintWords Go.Proofs.YteflgifmdojahaaW.PrintLast Go.Proofs.Yteflgifmdojahaa.Gf Go.Proofs.Yteflgifmdojahaa.KitW
set_option linter.unusedVariables false
set_option linter.unusedSimpArgs false
theorem bytes_bytesOf (s : ByteArray) : Bytes (bytesOf s):=by
  intro x hx
  simp only [bytesOf,List.mem_map] at hx
  obtain ⟨b,_,rfl⟩:=hx
  exact ⟨by omega,by have:=b.toNat_lt;omega⟩
theorem bytesOf_str {l : List Int} (h : Bytes l) : bytesOf (strOfNums l)=l:=by
  unfold bytesOf
  rw [strOfNums_data,List.map_map]
  have : ∀ x ∈ l,((fun b : UInt8=>(b.toNat : Int)) ∘ fun n : Int=>UInt8.ofNat n.toNat) x=x:=by
    intro x hx
    have hb:=h x hx
    unfold Byte at hb
    simp only [Function.comp_apply,UInt8.toNat_ofNat']
    omega
  rw [List.map_congr_left this,List.map_id']
theorem str_bytesOf (s : ByteArray) : strOfNums (bytesOf s)=s:=by
  unfold strOfNums bytesOf
  rw [List.map_map]
  have : ∀ x ∈ s.data.toList,((fun n : Int=>UInt8.ofNat n.toNat) ∘ fun b : UInt8=>(b.toNat : Int)) x=x:=by
    intro x _
    simp
  rw [List.map_congr_left this,List.map_id']
/-- A text of a list. -/
abbrev txt (l : List ByteArray) (i : Nat) : ByteArray:=l.getD i ByteArray.empty
theorem txt_get {l : List ByteArray} {i : Nat} (h : i < l.length) : txt l i=l[i]:=by simp [txt,List.getD,h]
theorem txt_mem {l : List ByteArray} {i : Nat} (h : i < l.length) : txt l i ∈ l:=by rw [txt_get h];exact List.getElem_mem h
/-- Texts that are not too many, and not too long. -/
def textsLe (n : Nat) (l : List ByteArray) : Prop:=l.length≤n∧∀ s ∈ l,s.size≤n
theorem textsLe.txt {n : Nat} {l : List ByteArray} (h : textsLe n l) (i : Nat) : (txt l i).size≤n:=by
  by_cases hi : i < l.length
  · exact h.2 _ (txt_mem hi)
  · simp [Kit.txt,List.getD,hi]
theorem textsLe.append {n m : Nat} {a b : List ByteArray} (ha : textsLe n a) (hb : textsLe m b) : textsLe (n+m) (a ++ b):=by
  refine ⟨by have:=ha.1;have:=hb.1;simp;omega,fun s hs=>?_⟩
  rcases List.mem_append.1 hs with h | h
  · have:=ha.2 s h;omega
  · have:=hb.2 s h;omega
/-- A text too long, or of another length than the first one. -/
def badT (l : List ByteArray) (j : Nat) : Bool:=decide (40 < (txt l j).size) || (txt l j).size != (txt l 0).size
theorem textsOk_bad (l : List ByteArray) : textsOk l = !((List.range l.length).any fun j=>badT l j):=rfl
theorem textsOk_all {l : List ByteArray} (h : textsOk l=true) : ∀ j,j < l.length→(txt l j).size=(txt l 0).size∧(txt l j).size≤40:=by
  intro j hj
  rw [textsOk_bad] at h
  have h3 : ((List.range l.length).any fun j=>badT l j)=false:=by simpa using h
  rw [List.any_eq_false] at h3
  have h4 : badT l j=false:=by
    have:=h3 j (by simpa using hj)
    simpa using this
  unfold badT at h4
  rw [Bool.or_eq_false_iff,bne_eq_false_iff_eq] at h4
  have h5:=of_decide_eq_false h4.1
  exact ⟨h4.2,by omega⟩
/-- Are texts those of a stripe? -/
def goodStripe (D P : List ByteArray) : Bool:=decide ((1≤(D.length : Int)∧(D.length : Int)≤16)∧1≤(P.length : Int)∧(P.length : Int)≤4) && textsOk (D ++ P)
theorem idM_length (n : Nat) : (idM n).length=n:=by simp [idM]
def alike (D P E Q : List ByteArray) : Bool:=goodStripe D P && (goodStripe E Q && (decide (P.length=Q.length) && decide ((txt D 0).size=(txt E 0).size)))
end Go.Proofs.Yteflgifmdojahaa.Kit
-- SQUEEZED
