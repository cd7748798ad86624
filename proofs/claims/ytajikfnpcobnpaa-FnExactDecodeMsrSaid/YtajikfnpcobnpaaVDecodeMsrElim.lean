/- Gauss's and Jordan's steps over rows of any kind; no program stands here. -/
import Derived.Test.YtajikfnpcobnpaaVDecodeMsrKit3
namespace Go.Proofs.Ytajikfnpcobnpaa.Kit
open Go.RowKit Go.Proofs.YtajikfnpcobnpaaW.PrintWords Go.Proofs.YtajikfnpcobnpaaW.PrintLast Go.Proofs.Ytajikfnpcobnpaa.Gf
set_option linter.unusedVariables false
set_option linter.unusedSimpArgs false
/-- Rows: what stands at a place, a row times a byte, the sum of two. -/
structure RowK (ρ : Type) where
  nul : ρ
  get : ρ→Nat→Int
  sc : Int→ρ→ρ
  ad : ρ→ρ→ρ
namespace RowK
section
variable {ρ : Type} (O : RowK ρ)
/-- The first row from a on that has something at k. -/
def piv (R : List ρ) (k a : Nat) : Option Nat:=(List.range R.length).find? fun i=>decide (a≤i) && (O.get (R.getD i O.nul) k != 0)
/-- The first n rows but row a, cleared at k by row a. -/
def clr (k a : Nat) (R : List ρ) : Nat→List ρ
  | 0=>R
  | n+1=>if n ≠ a∧O.get ((clr k a R n).getD n O.nul) k ≠ 0 then (clr k a R n).set n (O.ad ((clr k a R n).getD n O.nul) (O.sc (O.get ((clr k a R n).getD n O.nul) k) ((clr k a R n).getD a O.nul))) else clr k a R n
/-- Row i comes to place a, made simple. -/
def lift (R : List ρ) (k a i : Nat) : List ρ:=(R.set i (R.getD a O.nul)).set a (O.sc (inv (O.get (R.getD i O.nul) k)) (R.getD i O.nul))
def stp (k : Nat) (s : List ρ × Nat) : List ρ × Nat:=match O.piv s.1 k s.2 with
  | none=>s
  | some i=>(O.clr k s.2 (O.lift s.1 k s.2 i) s.1.length,s.2+1)
/-- The state behind the first k columns. -/
def red (R : List ρ) : Nat→List ρ × Nat
  | 0=>(R,0)
  | k+1=>if (red R k).2 < R.length then O.stp k (red R k) else red R k
end
section
variable {ρ : Type} {O : RowK ρ} {R : List ρ} {k a i : Nat}
theorem piv_some (h1 : a≤i) (h2 : i < R.length) (h3 : O.get (R.getD i O.nul) k ≠ 0) (h4 : ∀ j,a≤j→j < i→O.get (R.getD j O.nul) k=0) : O.piv R k a=some i:=by
  unfold piv
  rw [List.find?_range_eq_some]
  refine ⟨by rw [Bool.and_eq_true];exact ⟨decide_eq_true h1,bne_iff_ne.2 h3⟩,by simpa using h2,fun j hj=>?_⟩
  by_cases e : a≤j
  · show (!(decide (a≤j) && (O.get (R.getD j O.nul) k != 0)))=true
    rw [h4 j e hj];simp
  · show (!(decide (a≤j) && (O.get (R.getD j O.nul) k != 0)))=true
    rw [decide_eq_false e];rfl
theorem piv_none (h : ∀ j,a≤j→j < R.length→O.get (R.getD j O.nul) k=0) : O.piv R k a=none:=by
  unfold piv
  rw [List.find?_eq_none]
  intro j hj
  have hj : j < R.length:=by simpa using hj
  by_cases e : a≤j
  · simp only [h j e hj];simp
  · simp [e]
theorem piv_cases (O : RowK ρ) (R : List ρ) (k a : Nat) : (∃ i,O.piv R k a=some i∧a≤i∧i < R.length∧O.get (R.getD i O.nul) k ≠ 0∧∀ j,a≤j→j < i→O.get (R.getD j O.nul) k=0)∨(O.piv R k a=none∧∀ j,a≤j→j < R.length→O.get (R.getD j O.nul) k=0):=by
  by_cases h : ∃ i,a≤i∧i < R.length∧O.get (R.getD i O.nul) k ≠ 0
  · left
    obtain ⟨i,h1,h2,h3⟩:=h
    have key : ∀ n i,i≤n→a≤i→i < R.length→O.get (R.getD i O.nul) k ≠ 0→∃ i,a≤i∧i < R.length∧O.get (R.getD i O.nul) k ≠ 0∧∀ j,a≤j→j < i→O.get (R.getD j O.nul) k=0:=by
      intro n
      induction n with
      | zero =>
        intro i hi h1 h2 h3
        exact ⟨i,h1,h2,h3,fun j _ hj=>by omega⟩
      | succ n ih =>
        intro i hi h1 h2 h3
        by_cases hx : ∃ j,a≤j∧j < i∧O.get (R.getD j O.nul) k ≠ 0
        · obtain ⟨j,g1,g2,g3⟩:=hx
          exact ih j (by omega) g1 (by omega) g3
        · refine ⟨i,h1,h2,h3,fun j g1 g2=>?_⟩
          by_cases e : O.get (R.getD j O.nul) k=0
          · exact e
          · exact absurd ⟨j,g1,g2,e⟩ hx
    obtain ⟨i,h1,h2,h3,h4⟩:=key i i (Nat.le_refl _) h1 h2 h3
    exact ⟨i,piv_some h1 h2 h3 h4,h1,h2,h3,h4⟩
  · right
    have h' : ∀ j,a≤j→j < R.length→O.get (R.getD j O.nul) k=0:=fun j g1 g2=>by
      by_cases e : O.get (R.getD j O.nul) k=0
      · exact e
      · exact absurd ⟨j,g1,g2,e⟩ h
    exact ⟨piv_none h',h'⟩
theorem clr_length (k a : Nat) (R : List ρ) : ∀ n,(O.clr k a R n).length=R.length
  | 0=>rfl
  | n+1=>by
    unfold clr
    split
    · rw [List.length_set,clr_length k a R n]
    · exact clr_length k a R n
theorem lift_length (R : List ρ) (k a i : Nat) : (O.lift R k a i).length=R.length:=by simp [lift]
theorem stp_length (k : Nat) (s : List ρ × Nat) : (O.stp k s).1.length=s.1.length:=by
  unfold stp
  split
  · rfl
  · simp only;rw [clr_length,lift_length]
theorem red_length (R : List ρ) : ∀ k,(O.red R k).1.length=R.length
  | 0=>rfl
  | k+1=>by
    unfold red
    split
    · rw [stp_length,red_length R k]
    · exact red_length R k
theorem stp_rank (k : Nat) (s : List ρ × Nat) : s.2≤(O.stp k s).2∧(O.stp k s).2≤s.2+1:=by
  unfold stp
  split
  · omega
  · simp only;omega
theorem red_rank (R : List ρ) : ∀ k,(O.red R k).2≤k∧(O.red R k).2≤R.length
  | 0=>⟨Nat.le_refl _,Nat.zero_le _⟩
  | k+1=>by
    have h:=red_rank R k
    have h2:=stp_rank (O:=O) k (O.red R k)
    unfold red
    split
    · omega
    · omega
theorem red_full {R : List ρ} {k : Nat} (h : (O.red R k).2=R.length) : ∀ n,O.red R (k+n)=O.red R k
  | 0=>rfl
  | n+1=>by
    have e:=red_full h n
    show (if (O.red R (k+n)).2 < R.length then O.stp (k+n) (O.red R (k+n)) else O.red R (k+n))=_
    rw [e,if_neg (by omega)]
theorem set_all {P : ρ→Prop} {R : List ρ} (h : ∀ r ∈ R,P r) {x : ρ} (hx : P x) (i : Nat) : ∀ r ∈ R.set i x,P r:=by
  intro r hr
  rcases List.mem_or_eq_of_mem_set hr with h1 | h1
  · exact h r h1
  · rw [h1];exact hx
end
/-- Rows that are closed: P holds of each, products and sums keep it. -/
structure Shut {ρ : Type} (O : RowK ρ) (P : ρ→Prop) : Prop where
  byte : ∀ r k,P r→Byte (O.get r k)
  sc : ∀ a r,Byte a→P r→P (O.sc a r)
  ad : ∀ r s,P r→P s→P (O.ad r s)
section
variable {ρ : Type} {O : RowK ρ} {P : ρ→Prop}
/-- As above, with places inside alone. -/
theorem at_all {R : List ρ} (h : ∀ r ∈ R,P r) {i : Nat} (hi : i < R.length) : P (R.getD i O.nul):=by
  rw [List.getD_eq_getElem?_getD,List.getElem?_eq_getElem hi];exact h _ (List.getElem_mem hi)
theorem clr_all (hP : Shut O P) {R : List ρ} (h : ∀ r ∈ R,P r) (k a : Nat) (ha : a < R.length) : ∀ n,n≤R.length→∀ r ∈ O.clr k a R n,P r
  | 0,_=>h
  | n+1,hn=>by
    have ih:=clr_all hP h k a ha n (by omega)
    have hl:=clr_length (O:=O) k a R n
    unfold clr
    split
    · refine set_all ih (hP.ad _ _ (at_all ih (by omega)) (hP.sc _ _ (hP.byte _ _ (at_all ih (by omega))) (at_all ih (by omega)))) _
    · exact ih
theorem lift_all (hP : Shut O P) {R : List ρ} (h : ∀ r ∈ R,P r) (k : Nat) {a i : Nat} (ha : a < R.length) (hi : i < R.length) : ∀ r ∈ O.lift R k a i,P r :=
  set_all (set_all h (at_all h ha) _) (hP.sc _ _ (hP.byte _ _ (at_all h hi)).inv (at_all h hi)) _
theorem stp_all (hP : Shut O P) (k : Nat) {s : List ρ × Nat} (h : ∀ r ∈ s.1,P r) (hs : s.2 < s.1.length) : ∀ r ∈ (O.stp k s).1,P r:=by
  unfold stp
  rcases piv_cases O s.1 k s.2 with ⟨i,e,_,hi,_⟩ | ⟨e,_⟩
  · rw [e]
    exact clr_all hP (lift_all hP h k hs hi) k s.2 (by rw [lift_length];exact hs) _ (by rw [lift_length];exact Nat.le_refl _)
  · rw [e];exact h
theorem red_all (hP : Shut O P) {R : List ρ} (h : ∀ r ∈ R,P r) : ∀ k,∀ r ∈ (O.red R k).1,P r
  | 0=>h
  | k+1=>by
    have ih:=red_all hP h k
    unfold red
    split
    · rename_i hlt
      exact stp_all hP k ih (by rw [red_length];exact hlt)
    · exact ih
end
/-- Rows of two kinds that go together. -/
structure Hom {ρ σ : Type} (O : RowK ρ) (O' : RowK σ) (φ : ρ→σ) (P : ρ→Prop) (n : Nat) : Prop where
  get : ∀ r k,P r→k < n→O'.get (φ r) k=O.get r k
  sc : ∀ a r,P r→φ (O.sc a r)=O'.sc a (φ r)
  ad : ∀ r s,P r→P s→φ (O.ad r s)=O'.ad (φ r) (φ s)
section
variable {ρ σ : Type} {O : RowK ρ} {O' : RowK σ} {φ : ρ→σ} {P : ρ→Prop} {n : Nat}
theorem getD_map {R : List ρ} {i : Nat} (hi : i < R.length) : (R.map φ).getD i O'.nul=φ (R.getD i O.nul):=by
  rw [List.getD_eq_getElem?_getD,List.getD_eq_getElem?_getD,List.getElem?_map,List.getElem?_eq_getElem hi];rfl
theorem piv_map (hφ : Hom O O' φ P n) {R : List ρ} (h : ∀ r ∈ R,P r) {k : Nat} (hk : k < n) (a : Nat) : O'.piv (R.map φ) k a=O.piv R k a:=by
  have e : ∀ i,i < R.length→O'.get ((R.map φ).getD i O'.nul) k=O.get (R.getD i O.nul) k:=fun i hi=>by
    rw [getD_map (O:=O) hi];exact hφ.get _ _ (at_all h hi) hk
  rcases piv_cases O R k a with ⟨i,e1,h1,h2,h3,h4⟩ | ⟨e1,h1⟩
  · rw [e1]
    exact piv_some h1 (by simpa using h2) (by rw [e i h2];exact h3) (fun j g1 g2=>by rw [e j (by omega)];exact h4 j g1 g2)
  · rw [e1]
    exact piv_none (fun j g1 g2=>by rw [e j (by simpa using g2)];exact h1 j g1 (by simpa using g2))
theorem clr_map (hP : Shut O P) (hφ : Hom O O' φ P n) {R : List ρ} (h : ∀ r ∈ R,P r) {k : Nat} (hk : k < n) {a : Nat} (ha : a < R.length) : ∀ m,m≤R.length→O'.clr k a (R.map φ) m=(O.clr k a R m).map φ
  | 0,_=>rfl
  | m+1,hm=>by
    have ih:=clr_map hP hφ h hk ha m (by omega)
    have hall:=clr_all hP h k a ha m (by omega)
    have hl:=clr_length (O:=O) k a R m
    have hg : O'.get (((O.clr k a R m).map φ).getD m O'.nul) k=O.get ((O.clr k a R m).getD m O.nul) k:=by
      rw [getD_map (O:=O) (by omega)];exact hφ.get _ _ (at_all hall (by omega)) hk
    unfold clr
    rw [ih,hg]
    by_cases c : m ≠ a∧O.get ((O.clr k a R m).getD m O.nul) k ≠ 0
    · rw [if_pos c,if_pos c,List.map_set,getD_map (O:=O) (by omega),getD_map (O:=O) (by omega)]
      rw [hφ.ad _ _ (at_all hall (by omega)) (hP.sc _ _ (hP.byte _ _ (at_all hall (by omega))) (at_all hall (by omega))),hφ.sc _ _ (at_all hall (by omega))]
    · rw [if_neg c,if_neg c]
theorem lift_map (hφ : Hom O O' φ P n) {R : List ρ} (h : ∀ r ∈ R,P r) {k : Nat} (hk : k < n) {a i : Nat} (ha : a < R.length) (hi : i < R.length) : O'.lift (R.map φ) k a i=(O.lift R k a i).map φ:=by
  unfold lift
  rw [List.map_set,List.map_set,getD_map (O:=O) ha,getD_map (O:=O) hi,hφ.sc _ _ (at_all h hi),hφ.get _ _ (at_all h hi) hk]
theorem red_map (hP : Shut O P) (hφ : Hom O O' φ P n) {R : List ρ} (h : ∀ r ∈ R,P r) : ∀ k,k≤n→O'.red (R.map φ) k=((O.red R k).1.map φ,(O.red R k).2)
  | 0,_=>rfl
  | k+1,hk=>by
    have ih:=red_map hP hφ h k (by omega)
    have hall:=red_all hP h k
    have hl:=red_length (O:=O) R k
    unfold red
    rw [ih,List.length_map]
    by_cases c : (O.red R k).2 < R.length
    · rw [if_pos c,if_pos c]
      unfold stp
      simp only
      rw [piv_map hφ hall (by omega)]
      rcases piv_cases O (O.red R k).1 k (O.red R k).2 with ⟨i,e1,h1,h2,_⟩ | ⟨e1,_⟩
      · rw [e1]
        simp only
        rw [lift_map hφ hall (by omega) (by omega) h2,List.length_map,clr_map hP hφ (lift_all hP hall k (by omega) h2) (by omega) (by rw [lift_length];omega) _ (by rw [lift_length];exact Nat.le_refl _)]
      · rw [e1]
    · rw [if_neg c,if_neg c]
end
end RowK
/-- Rows of numbers. -/
def rowI : RowK (List Int):=⟨[],fun r k=>r.getD k 0,scale,addV⟩
/-- Two rows side by side. -/
def rowP : RowK (List Int × List Int):=⟨([],[]),fun r k=>r.1.getD k 0,fun a r=>(scale a r.1,scale a r.2),fun r s=>(addV r.1 s.1,addV r.2 s.2)⟩
def okI (n : Nat) (r : List Int) : Prop:=Bytes r∧r.length=n
def okP (n m : Nat) (r : List Int × List Int) : Prop:=okI n r.1∧okI m r.2
theorem shutI (n : Nat) : RowK.Shut rowI (okI n):=by
  refine ⟨fun r k h=>bytes_getD h.1 k,fun a r ha h=>⟨scale_bytes ha _,by rw [← h.2];exact scale_length a r⟩,fun r s h k=>⟨addV_bytes h.1 k.1,?_⟩⟩
  show (addV r s).length=n
  rw [addV_length,h.2,k.2];exact Nat.min_self n
theorem shutP (n m : Nat) : RowK.Shut rowP (okP n m) :=
  ⟨fun r k h=>bytes_getD h.1.1 k,fun a r ha h=>⟨(shutI n).sc a r.1 ha h.1,(shutI m).sc a r.2 ha h.2⟩,fun r s h k=>⟨(shutI n).ad r.1 s.1 h.1 k.1,(shutI m).ad r.2 s.2 h.2 k.2⟩⟩
theorem hom_cat (n m : Nat) : RowK.Hom rowP rowI (fun r=>r.1 ++ r.2) (okP n m) n:=by
  refine ⟨fun r k h hk=>?_,fun a r h=>?_,fun r s h k=>?_⟩
  · show (r.1 ++ r.2).getD k 0=r.1.getD k 0
    have:=h.1.2
    rw [List.getD_eq_getElem?_getD,List.getD_eq_getElem?_getD,List.getElem?_append_left (by omega)]
  · show scale a r.1 ++ scale a r.2=scale a (r.1 ++ r.2)
    simp [scale]
  · show addV r.1 s.1 ++ addV r.2 s.2=addV (r.1 ++ r.2) (s.1 ++ s.2)
    unfold addV
    rw [List.zipWith_append (by rw [h.1.2,k.1.2])]
end Go.Proofs.Ytajikfnpcobnpaa.Kit
-- SQUEEZED
