/- More words for the printed functions: sums of products, products of matrices; no program stands here. -/
import Derived.Test.YtajikfnpcobnpaaVDecodeMsrKit2
namespace Go.Proofs.Ytajikfnpcobnpaa.Kit
open Go.RowKit Go.Proofs.YtajikfnpcobnpaaW.PrintWords Go.Proofs.YtajikfnpcobnpaaW.PrintLast Go.Proofs.Ytajikfnpcobnpaa.Gf
set_option linter.unusedVariables false
set_option linter.unusedSimpArgs false
theorem dotV_snoc (v w : List Int) (x y : Int) (hv : Bytes v) (hx : Byte x) (hl : v.length=w.length) : dotV (v ++ [x]) (w ++ [y])=gx (dotV v w) (mul x y):=by
  induction v generalizing w with
  | nil =>
    cases w with
    | nil =>
      show gx (mul x y) 0=gx 0 (mul x y)
      rw [gx_zero (Byte.mul hx y),zero_gx (Byte.mul hx y)]
    | cons b w=>simp at hl
  | cons a v ih =>
    cases w with
    | nil=>simp at hl
    | cons b w =>
      show gx (mul a b) (dotV (v ++ [x]) (w ++ [y]))=gx (gx (mul a b) (dotV v w)) (mul x y)
      rw [ih w (fun z hz=>hv z (by simp [hz])) (by simpa using hl),gx_assoc]
theorem dotV_range (f g : Nat→Int) : ∀ n,(∀ k,k < n→Byte (f k))→dotV ((List.range n).map f) ((List.range n).map g)=sumOver (fun k=>mul (f k) (g k)) n
  | 0,_=>rfl
  | n+1,h=>by
    rw [List.range_succ,List.map_append,List.map_append]
    show dotV (_ ++ [f n]) (_ ++ [g n])=_
    have hb : Bytes ((List.range n).map f):=by
      intro z hz
      simp only [List.mem_map] at hz
      obtain ⟨k,hk,rfl⟩:=hz
      have : k < n:=by simpa using hk
      exact h k (by omega)
    rw [dotV_snoc _ _ _ _ hb (h n (by omega)) (by simp),dotV_range f g n (fun k hk=>h k (by omega))]
    rfl
/-- Rows of bytes. -/
def matBytes (l : List (List Int)) : Prop:=∀ r ∈ l,Bytes r
theorem matBytes_row {l : List (List Int)} (h : matBytes l) (i : Nat) : Bytes (l.getD i []):=by
  by_cases hi : i < l.length
  · have e : l.getD i []=l[i]:=by simp [List.getD,hi]
    rw [e];exact h _ (List.getElem_mem hi)
  · have e : l.getD i []=[]:=by simp [List.getD,hi]
    rw [e];exact Bytes.nil
theorem bytes_getD {l : List Int} (h : Bytes l) (i : Nat) : Byte (l.getD i 0):=by
  by_cases hi : i < l.length
  · have e : l.getD i 0=l[i]:=by simp [List.getD,hi]
    rw [e];exact h _ (List.getElem_mem hi)
  · have e : l.getD i 0=0:=by simp [List.getD,hi]
    rw [e];exact Byte.zero
theorem matBytes_get {l : List (List Int)} (h : matBytes l) (i j : Nat) : Byte ((l.getD i []).getD j 0):=bytes_getD (matBytes_row h i) j
theorem tab_bytes {n m : Nat} {f : Nat→Nat→Int} (h : ∀ i,i < n→∀ j,j < m→Byte (f i j)) : matBytes (tab n m f):=by
  intro r hr
  simp only [tab,List.mem_map] at hr
  obtain ⟨i,hi,rfl⟩:=hr
  intro x hx
  simp only [List.mem_map] at hx
  obtain ⟨j,hj,rfl⟩:=hx
  exact h i (by simpa using hi) j (by simpa using hj)
theorem row_self {l : List Int} {n : Nat} (h : l.length=n) : l=(List.range n).map fun j=>l.getD j 0:=by
  apply List.ext_getElem
  · simp [h]
  · intro j h1 h2
    simp [List.getD,h1]
end Go.Proofs.Ytajikfnpcobnpaa.Kit
-- SQUEEZED
