/- Words for texts: their bytes, their sums and products, what marks them; no program stands here. -/
import Derived.Test.YtajikfnpcobnpaaVCheckShardsElim
import Derived.Test.YtajikfnpcobnpaaVCheckShardsKitW
namespace Go.Proofs.Ytajikfnpcobnpaa.Kit
open Go.RowKit Go.Proofs.YtajikfnpcobnpaaW.PrintWords Go.Proofs.YtajikfnpcobnpaaW.PrintLast Go.Proofs.Ytajikfnpcobnpaa.Gf Go.Proofs.Ytajikfnpcobnpaa.KitW
set_option linter.unusedVariables false
set_option linter.unusedSimpArgs false
theorem bytes_bytesOf (s : ByteArray) : Bytes (bytesOf s):=by
  intro x hx
  simp only [bytesOf,List.mem_map] at hx
  obtain ⟨b,_,rfl⟩:=hx
  exact ⟨by omega,by have:=b.toNat_lt;omega⟩
theorem bytesOf_str {l : List Int} (h : Bytes l) : bytesOf (strOfNums l)=l:=by
  unfold bytesOf
  rw [strOfNums_data,List.map_map]
  have : ∀ x ∈ l,((fun b : UInt8=>(b.toNat : Int)) ∘ fun n : Int=>UInt8.ofNat n.toNat) x=x:=by
    intro x hx
    have hb:=h x hx
    unfold Byte at hb
    simp only [Function.comp_apply,UInt8.toNat_ofNat']
    omega
  rw [List.map_congr_left this,List.map_id']
/-- A text of a list. -/
abbrev txt (l : List ByteArray) (i : Nat) : ByteArray:=l.getD i ByteArray.empty
theorem rdOf_nat (l : List ByteArray) (i : Nat) : rdOf ByteArray.empty l (i : Int)=txt l i:=by unfold rdOf;simp
theorem rdOf_zero (l : List ByteArray) : rdOf ByteArray.empty l 0=txt l 0:=rdOf_nat l 0
theorem txt_get {l : List ByteArray} {i : Nat} (h : i < l.length) : txt l i=l[i]:=by simp [txt,List.getD,h]
theorem txt_mem {l : List ByteArray} {i : Nat} (h : i < l.length) : txt l i ∈ l:=by rw [txt_get h];exact List.getElem_mem h
/-- Texts that are not too many, and not too long. -/
def textsLe (n : Nat) (l : List ByteArray) : Prop:=l.length≤n∧∀ s ∈ l,s.size≤n
theorem textsLe.txt {n : Nat} {l : List ByteArray} (h : textsLe n l) (i : Nat) : (txt l i).size≤n:=by
  by_cases hi : i < l.length
  · exact h.2 _ (txt_mem hi)
  · simp [Kit.txt,List.getD,hi]
theorem textsLe.append {n m : Nat} {a b : List ByteArray} (ha : textsLe n a) (hb : textsLe m b) : textsLe (n+m) (a ++ b):=by
  refine ⟨by have:=ha.1;have:=hb.1;simp;omega,fun s hs=>?_⟩
  rcases List.mem_append.1 hs with h | h
  · have:=ha.2 s h;omega
  · have:=hb.2 s h;omega
/-- A text too long, or of another length than the first one. -/
def badT (l : List ByteArray) (j : Nat) : Bool:=decide (40 < (txt l j).size) || (txt l j).size != (txt l 0).size
theorem textsOk_bad (l : List ByteArray) : textsOk l = !((List.range l.length).any fun j=>badT l j):=rfl
theorem textsOk_all {l : List ByteArray} (h : textsOk l=true) : ∀ j,j < l.length→(txt l j).size=(txt l 0).size∧(txt l j).size≤40:=by
  intro j hj
  rw [textsOk_bad] at h
  have h3 : ((List.range l.length).any fun j=>badT l j)=false:=by simpa using h
  rw [List.any_eq_false] at h3
  have h4 : badT l j=false:=by
    have:=h3 j (by simpa using hj)
    simpa using this
  unfold badT at h4
  rw [Bool.or_eq_false_iff,bne_eq_false_iff_eq] at h4
  have h5:=of_decide_eq_false h4.1
  exact ⟨h4.2,by omega⟩
/-- One text of several, told by a row of factors: the first k of them. -/
def mixTo (r : List Int) (D : List ByteArray) (n : Nat) : Nat→List Int
  | 0=>List.replicate n 0
  | k+1=>addV (mixTo r D n k) (scale (r.getD k 0) (bytesOf (txt D k)))
def mixT (R : List (List Int)) (D : List ByteArray) : List ByteArray:=R.map fun r=>strOfNums (mixTo r D (txt D 0).size D.length)
theorem mixT_length (R : List (List Int)) (D : List ByteArray) : (mixT R D).length=R.length:=by simp [mixT]
theorem mixTo_ok {r : List Int} {D : List ByteArray} {n : Nat} (hr : Bytes r) (hD : ∀ j,j < D.length→(txt D j).size=n) : ∀ k,k≤D.length→Bytes (mixTo r D n k)∧(mixTo r D n k).length=n
  | 0,_=>⟨fun x hx=>by rw [(List.mem_replicate.1 hx).2];exact Byte.zero,by simp [mixTo]⟩
  | k+1,hk=>by
    obtain ⟨h1,h2⟩:=mixTo_ok hr hD k (by omega)
    have h3:=hD k (by omega)
    refine ⟨addV_bytes h1 (scale_bytes (bytes_getD hr k) _),?_⟩
    unfold mixTo
    rw [addV_length,scale_length,bytesOf_length,h2,h3]
    exact Nat.min_self n
theorem mixT_size {R : List (List Int)} {D : List ByteArray} (hR : matBytes R) (hD : ∀ j,j < D.length→(txt D j).size=(txt D 0).size) : ∀ s ∈ mixT R D,s.size=(txt D 0).size:=by
  intro s hs
  simp only [mixT,List.mem_map] at hs
  obtain ⟨r,hr,rfl⟩:=hs
  rw [strOfNums_size]
  exact (mixTo_ok (hR r hr) hD _ (Nat.le_refl _)).2
/-- Two lists, the first up to a place, the second from there on. -/
theorem half_set {v b : List Int} (h : v.length=b.length) {j : Nat} (hj : j < b.length) : (v.take j ++ b.drop j).set j (v.getD j 0)=v.take (j+1) ++ b.drop (j+1):=by
  have hl : (v.take j).length=j:=by rw [List.length_take];omega
  have hv : j < v.length:=by omega
  have e : v.getD j 0=v[j]:=by simp [List.getD,hv]
  rw [List.set_append_right _ _ (by omega),hl,Nat.sub_self,List.drop_eq_getElem_cons hj,List.set_cons_zero,List.take_succ_eq_append_getElem hv,e,List.append_assoc]
  rfl
theorem half_get {v b : List Int} (h : v.length=b.length) {j : Nat} (hj : j < b.length) : rd (v.take j ++ b.drop j) (j : Int)=b.getD j 0:=by
  have hl : (v.take j).length=j:=by rw [List.length_take];omega
  rw [rd_nat,List.getD_eq_getElem?_getD,List.getElem?_append_right (by omega),hl,Nat.sub_self,List.getElem?_drop,Nat.add_zero,List.getD_eq_getElem?_getD]
theorem half_length {v b : List Int} (h : v.length=b.length) {j : Nat} (hj : j≤b.length) : (v.take j ++ b.drop j).length=b.length:=by
  rw [List.length_append,List.length_take,List.length_drop];omega
theorem addV_getD {v w : List Int} (h : v.length=w.length) {j : Nat} (hj : j < v.length) : (addV v w).getD j 0=gx (v.getD j 0) (w.getD j 0):=by
  have hw : j < w.length:=by omega
  have hz : j < (addV v w).length:=by rw [addV_length];omega
  rw [show (addV v w).getD j 0=(addV v w)[j] by simp [List.getD,hz],show v.getD j 0=v[j] by simp [List.getD,hj],show w.getD j 0=w[j] by simp [List.getD,hw]]
  simp [addV]
theorem scale_getD {a : Int} {v : List Int} {j : Nat} (hj : j < v.length) : (scale a v).getD j 0=mul a (v.getD j 0):=by simp [scale,List.getD,hj]
theorem bt_getD (s : ByteArray) (j : Nat) : bt s (j : Int)=(bytesOf s).getD j 0:=by rw [← rd_bytesOf,rd_nat]
theorem bt_byte (s : ByteArray) (i : Int) : Byte (bt s i):=by have:=bt_range s i;exact ⟨this.1,by omega⟩
/-- Are texts those of a stripe? -/
def goodStripe (D P : List ByteArray) : Bool:=decide ((1≤(D.length : Int)∧(D.length : Int)≤16)∧1≤(P.length : Int)∧(P.length : Int)≤4) && textsOk (D ++ P)
theorem idM_row (n : Nat) : ∀ r ∈ idM n,Bytes r∧r.length=n:=by
  intro r hr
  simp only [idM,List.mem_map] at hr
  obtain ⟨i,_,rfl⟩:=hr
  refine ⟨fun x hx=>?_,by simp⟩
  rcases List.mem_or_eq_of_mem_set hx with h | h
  · rw [(List.mem_replicate.1 h).2];exact Byte.zero
  · rw [h];exact Byte.one
theorem tab_row {n m : Nat} {f : Nat→Nat→Int} (h : ∀ i j,Byte (f i j)) : ∀ r ∈ tab n m f,Bytes r∧r.length=m:=by
  have hb : matBytes (tab n m f):=tab_bytes fun i _ j _=>h i j
  intro r hr
  refine ⟨hb r hr,?_⟩
  simp only [tab,List.mem_map] at hr
  obtain ⟨i,_,rfl⟩:=hr
  simp
theorem idM_length (n : Nat) : (idM n).length=n:=by simp [idM]
theorem rows_append {n : Nat} {a b : List (List Int)} (ha : ∀ r ∈ a,Bytes r∧r.length=n) (hb : ∀ r ∈ b,Bytes r∧r.length=n) : ∀ r ∈ a ++ b,Bytes r∧r.length=n:=by
  intro r hr
  rcases List.mem_append.1 hr with h | h
  · exact ha r h
  · exact hb r h
def cauAt (m i j : Nat) : Int:=inv ((Go.bits .xor .i64 (wrap64 ((m : Int)+(i : Int))) (j : Int)) % 256)
theorem mod_byte (x : Int) : Byte (x % 256):=⟨Int.emod_nonneg _ (by decide),Int.emod_lt_of_pos _ (by decide)⟩
def codeM (k m : Nat) : List (List Int):=idM k ++ tab m k (cauAt k)
theorem codeM_length (k m : Nat) : (codeM k m).length=k+m:=by unfold codeM;rw [List.length_append,idM_length,tab_length]
theorem codeM_rows (k m : Nat) : ∀ r ∈ codeM k m,Bytes r∧r.length=k:=rows_append (idM_row k) (tab_row fun i j=>Byte.inv (mod_byte _))
def alike (D P E Q : List ByteArray) : Bool:=goodStripe D P && (goodStripe E Q && (decide (P.length=Q.length) && decide ((txt D 0).size=(txt E 0).size)))
end Go.Proofs.Ytajikfnpcobnpaa.Kit
-- SQUEEZED
