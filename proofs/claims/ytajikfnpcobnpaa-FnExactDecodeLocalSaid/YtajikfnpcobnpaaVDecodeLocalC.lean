import Derived.Test.YtajikfnpcobnpaaVDecodeLocalA
import Derived.Deep.Strs
namespace Go.Proofs.Ytajikfnpcobnpaa.Lift
open Go.RowKit Go.ChangeShapes Go.WideShapes Go.Deep Go.Proofs.YtajikfnpcobnpaaW.PrintWords Go.Proofs.YtajikfnpcobnpaaW.PrintLast
set_option linter.unusedVariables false
set_option linter.unusedSimpArgs false
section
variable {H : Type} {enc : TypeId × Value→H} {P : Program} {w : World} {α β γ δ : Type}

def Opens {H : Type} (enc : TypeId × Value→H) (P : Program) (w : World) (t : TypeId) (d : Kd α) (wf : α→Prop) : Prop :=
  ∀ fuel cs x,DataW.trod enc P w 0 (fun _=>true) true fuel t cs=some x→∃ y,d.K w y cs∧wf y
theorem Opens.int {t : TypeId} {k : IntKind} (hu : P.underlying t=some (.int k)) : Opens enc P w t (Kd.int k) (fun x=>(Lit.int k x).wf=true):=by
  intro fuel cs x h
  obtain ⟨n,rfl,_,hw⟩:=DataW.trod_int hu h
  exact ⟨n,rfl,hw⟩
theorem Opens.string {t : TypeId} (hu : P.underlying t=some .string) : Opens enc P w t Kd.string (fun x=>x.size≤maxLen):=by
  intro fuel cs x h
  obtain ⟨n,rfl,_,hw⟩:=DataW.trod_string hu h
  exact ⟨n,rfl,hw⟩
theorem list_of {n : Nat} {p : Nat→α→Prop} (h : ∀ i,i < n→∃ x,p i x) : ∃ l : List α,l.length=n∧∀ (j : Nat) (x : α),l[j]? = some x→p j x:=by
  classical
  refine ⟨List.ofFn fun i : Fin n=>Classical.choose (h i.1 i.2),by simp,fun j x hx=>?_⟩
  obtain ⟨hj,e⟩:=List.getElem?_eq_some_iff.1 hx
  simp only [List.getElem_ofFn] at e
  subst e
  exact Classical.choose_spec (h j (by simpa using hj))
theorem Opens.slice {t e : TypeId} {d : Kd α} {wf : α→Prop} (hu : P.underlying t=some (.slice e)) (he : Opens enc P w e d wf) (hc : P.cellsOf e=d.sz) :
    Opens enc P w t (Kd.slice e d) (fun xs=>xs.length≤maxLen∧∀ x ∈ xs,wf x):=by
  intro fuel cs x h
  rcases open_slice hu h with ⟨rfl,_⟩ | ⟨a,len,cap,m,n,D,Pl,rfl,hb,hl,hm,hmm,_,hx⟩
  · exact ⟨[],⟨none,0,rfl,Nat.le_refl _,rfl,by simp,fun h0=>absurd h0 (by simp)⟩,by simp [maxLen],by simp⟩
  · simp only [if_true] at hmm
    subst hmm
    have each : ∀ i,i < len→∃ y,(∃ c,c.length=d.sz∧d.K w y c∧∀ j u,c[j]? = some u→w.cell? (a.add (i*d.sz+j))=some u)∧wf y:=by
      intro i hi
      obtain ⟨cs',hcs,hd⟩:=hx i (by omega)
      obtain ⟨y,hy,hw⟩:=he _ _ _ hd
      obtain ⟨_,hlen,hcell⟩:=World.cells?_some hcs
      refine ⟨y,⟨cs',by omega,hy,fun j u hj=>?_⟩,hw⟩
      have hjl:=(List.getElem?_eq_some_iff.1 hj).1
      rw [← Deep.add_add,← hc,hcell j (by omega)]
      exact hj
    obtain ⟨l,hll,hle⟩:=list_of each
    refine ⟨l,⟨some a,m,by rw [hll],by omega,rfl,?_,fun _=>⟨a,rfl,fun j p hj=>(hle j p hj).1⟩⟩,by omega,fun y hy=>?_⟩
    · unfold maxLen at hm
      omega
    · obtain ⟨j,hj,e⟩:=List.getElem_of_mem hy
      exact (hle j y (by rw [← e];exact List.getElem?_eq_getElem hj)).2
theorem Opens.struct2 {t : TypeId} {f0 f1 : Field} {d0 : Kd α} {d1 : Kd γ} {w0 : α→Prop} {w1 : γ→Prop} (hs : P.underlying t=some (.struct #[f0,f1])) (h0 : Opens enc P w f0.type d0 w0) (h1 : Opens enc P w f1.type d1 w1)
    (o0 : f0.offset=0) (o1 : f1.offset=P.cellsOf f0.type) (c1 : P.cellsOf t=P.cellsOf f0.type+P.cellsOf f1.type) (f : β→α × γ) (g : α × γ→β) (hfg : ∀ x,f (g x)=x) :
    Opens enc P w t (Kd.iso (Kd.pair d0 d1) f) (fun x=>w0 (f x).1∧w1 (f x).2):=by
  intro fuel cs x h
  obtain ⟨y0,y1,n,_,hl,e0,e1⟩:=trod_struct2 hs h
  rw [o0,List.drop_zero] at e0
  rw [o1,List.take_of_length_le (by rw [List.length_drop];omega)] at e1
  obtain ⟨x0,k0,m0⟩:=h0 _ _ _ e0
  obtain ⟨x1,k1,m1⟩:=h1 _ _ _ e1
  refine ⟨g (x0,x1),?_,?_⟩
  · show (Kd.pair d0 d1).K w (f (g (x0,x1))) cs
    rw [hfg]
    exact ⟨_,_,(List.take_append_drop _ _).symm,k0,k1⟩
  · show w0 (f (g (x0,x1))).1∧w1 (f (g (x0,x1))).2
    rw [hfg];exact ⟨m0,m1⟩
theorem Opens.struct3 {t : TypeId} {f0 f1 f2 : Field} {d0 : Kd α} {d1 : Kd γ} {d2 : Kd δ} {w0 : α→Prop} {w1 : γ→Prop} {w2 : δ→Prop} (hs : P.underlying t=some (.struct #[f0,f1,f2]))
    (h0 : Opens enc P w f0.type d0 w0) (h1 : Opens enc P w f1.type d1 w1) (h2 : Opens enc P w f2.type d2 w2)
    (o0 : f0.offset=0) (o1 : f1.offset=P.cellsOf f0.type) (o2 : f2.offset=P.cellsOf f0.type+P.cellsOf f1.type) (c1 : P.cellsOf t=P.cellsOf f0.type+P.cellsOf f1.type+P.cellsOf f2.type)
    (f : β→α × γ × δ) (g : α × γ × δ→β) (hfg : ∀ x,f (g x)=x) : Opens enc P w t (Kd.iso (Kd.pair d0 (Kd.pair d1 d2)) f) (fun x=>w0 (f x).1∧w1 (f x).2.1∧w2 (f x).2.2):=by
  intro fuel cs x h
  obtain ⟨y0,y1,y2,n,_,hl,e0,e1,e2⟩:=trod_struct3 hs h
  rw [o0,List.drop_zero] at e0
  rw [o1] at e1
  rw [o2,List.take_of_length_le (by rw [List.length_drop];omega)] at e2
  obtain ⟨x0,k0,m0⟩:=h0 _ _ _ e0
  obtain ⟨x1,k1,m1⟩:=h1 _ _ _ e1
  obtain ⟨x2,k2,m2⟩:=h2 _ _ _ e2
  refine ⟨g (x0,x1,x2),?_,?_⟩
  · show (Kd.pair d0 (Kd.pair d1 d2)).K w (f (g (x0,x1,x2))) cs
    rw [hfg]
    refine ⟨_,_,(List.take_append_drop (P.cellsOf f0.type) _).symm,k0,_,_,?_,k1,k2⟩
    rw [← List.drop_drop,List.take_append_drop]
  · show w0 (f (g (x0,x1,x2))).1∧w1 (f (g (x0,x1,x2))).2.1∧w2 (f (g (x0,x1,x2))).2.2
    rw [hfg];exact ⟨m0,m1,m2⟩
theorem Opens.id {t : TypeId} {d : Kd α} {wf : α→Prop} (h : Opens enc P w t d wf) {v : Value} {x : DataW H} {p : List MemPlace} (ht : DataW.Trod enc P w 0 (fun _=>true) true t v x p) : ∃ y,d.K w y v.cells.toList∧wf y:=by
  obtain ⟨fuel,hf⟩:=ht
  exact h _ _ _ hf
theorem agg_of {cs : Array Value} {l : List Value} (h : (Value.agg cs).cells.toList=l) : Value.agg cs = .agg l.toArray:=by
  subst h
  simp [Value.cells]
end
end Go.Proofs.Ytajikfnpcobnpaa.Lift
namespace Go.Proofs.Ytajikfnpcobnpaa.Kit
open Go.RowKit Go.Proofs.YtajikfnpcobnpaaW.PrintWords Go.Proofs.YtajikfnpcobnpaaW.PrintLast Go.Proofs.Ytajikfnpcobnpaa.Gf Go.Proofs.Ytajikfnpcobnpaa.KitW
set_option linter.unusedVariables false
set_option linter.unusedSimpArgs false
theorem bytes_bytesOf (s : ByteArray) : Bytes (bytesOf s):=by
  intro x hx
  simp only [bytesOf,List.mem_map] at hx
  obtain ⟨b,_,rfl⟩:=hx
  exact ⟨by omega,by have:=b.toNat_lt;omega⟩
theorem bytesOf_str {l : List Int} (h : Bytes l) : bytesOf (strOfNums l)=l:=by
  unfold bytesOf
  rw [strOfNums_data,List.map_map]
  have : ∀ x ∈ l,((fun b : UInt8=>(b.toNat : Int)) ∘ fun n : Int=>UInt8.ofNat n.toNat) x=x:=by
    intro x hx
    have hb:=h x hx
    unfold Byte at hb
    simp only [Function.comp_apply,UInt8.toNat_ofNat']
    omega
  rw [List.map_congr_left this,List.map_id']
theorem str_append (a b : List Int) : strOfNums a ++ strOfNums b=strOfNums (a ++ b):=by
  apply ByteArray.ext
  rw [ByteArray.data_append]
  unfold strOfNums
  simp
abbrev txt (l : List ByteArray) (i : Nat) : ByteArray:=l.getD i ByteArray.empty
theorem rdOf_nat (l : List ByteArray) (i : Nat) : rdOf ByteArray.empty l (i : Int)=txt l i:=by unfold rdOf;simp
theorem rdOf_zero (l : List ByteArray) : rdOf ByteArray.empty l 0=txt l 0:=rdOf_nat l 0
theorem txt_get {l : List ByteArray} {i : Nat} (h : i < l.length) : txt l i=l[i]:=by simp [txt,List.getD,h]
theorem txt_mem {l : List ByteArray} {i : Nat} (h : i < l.length) : txt l i ∈ l:=by rw [txt_get h];exact List.getElem_mem h
def textsLe (n : Nat) (l : List ByteArray) : Prop:=l.length≤n∧∀ s ∈ l,s.size≤n
theorem textsLe.txt {n : Nat} {l : List ByteArray} (h : textsLe n l) (i : Nat) : (txt l i).size≤n:=by
  by_cases hi : i < l.length
  · exact h.2 _ (txt_mem hi)
  · simp [Kit.txt,List.getD,hi]
theorem textsLe.append {n m : Nat} {a b : List ByteArray} (ha : textsLe n a) (hb : textsLe m b) : textsLe (n+m) (a ++ b):=by
  refine ⟨by have:=ha.1;have:=hb.1;simp;omega,fun s hs=>?_⟩
  rcases List.mem_append.1 hs with h | h
  · have:=ha.2 s h;omega
  · have:=hb.2 s h;omega
def badT (l : List ByteArray) (j : Nat) : Bool:=decide (40 < (txt l j).size) || (txt l j).size != (txt l 0).size
theorem textsOk_bad (l : List ByteArray) : textsOk l = !((List.range l.length).any fun j=>badT l j):=rfl
theorem textsOk_all {l : List ByteArray} (h : textsOk l=true) : ∀ j,j < l.length→(txt l j).size=(txt l 0).size∧(txt l j).size≤40:=by
  intro j hj
  rw [textsOk_bad] at h
  have h3 : ((List.range l.length).any fun j=>badT l j)=false:=by simpa using h
  rw [List.any_eq_false] at h3
  have h4 : badT l j=false:=by
    have:=h3 j (by simpa using hj)
    simpa using this
  unfold badT at h4
  rw [Bool.or_eq_false_iff,bne_eq_false_iff_eq] at h4
  have h5:=of_decide_eq_false h4.1
  exact ⟨h4.2,by omega⟩
def mixTo (r : List Int) (D : List ByteArray) (n : Nat) : Nat→List Int
  | 0=>List.replicate n 0
  | k+1=>addV (mixTo r D n k) (scale (r.getD k 0) (bytesOf (txt D k)))
def mixT (R : List (List Int)) (D : List ByteArray) : List ByteArray:=R.map fun r=>strOfNums (mixTo r D (txt D 0).size D.length)
theorem mixT_length (R : List (List Int)) (D : List ByteArray) : (mixT R D).length=R.length:=by simp [mixT]
theorem mixTo_ok {r : List Int} {D : List ByteArray} {n : Nat} (hr : Bytes r) (hD : ∀ j,j < D.length→(txt D j).size=n) : ∀ k,k≤D.length→Bytes (mixTo r D n k)∧(mixTo r D n k).length=n
  | 0,_=>⟨fun x hx=>by rw [(List.mem_replicate.1 hx).2];exact Byte.zero,by simp [mixTo]⟩
  | k+1,hk=>by
    obtain ⟨h1,h2⟩:=mixTo_ok hr hD k (by omega)
    have h3:=hD k (by omega)
    refine ⟨addV_bytes h1 (scale_bytes (bytes_getD hr k) _),?_⟩
    unfold mixTo
    rw [addV_length,scale_length,bytesOf_length,h2,h3]
    exact Nat.min_self n
theorem half_set {v b : List Int} (h : v.length=b.length) {j : Nat} (hj : j < b.length) : (v.take j ++ b.drop j).set j (v.getD j 0)=v.take (j+1) ++ b.drop (j+1):=by
  have hl : (v.take j).length=j:=by rw [List.length_take];omega
  have hv : j < v.length:=by omega
  have e : v.getD j 0=v[j]:=by simp [List.getD,hv]
  rw [List.set_append_right _ _ (by omega),hl,Nat.sub_self,List.drop_eq_getElem_cons hj,List.set_cons_zero,List.take_succ_eq_append_getElem hv,e,List.append_assoc]
  rfl
theorem half_get {v b : List Int} (h : v.length=b.length) {j : Nat} (hj : j < b.length) : rd (v.take j ++ b.drop j) (j : Int)=b.getD j 0:=by
  have hl : (v.take j).length=j:=by rw [List.length_take];omega
  rw [rd_nat,List.getD_eq_getElem?_getD,List.getElem?_append_right (by omega),hl,Nat.sub_self,List.getElem?_drop,Nat.add_zero,List.getD_eq_getElem?_getD]
theorem half_length {v b : List Int} (h : v.length=b.length) {j : Nat} (hj : j≤b.length) : (v.take j ++ b.drop j).length=b.length:=by
  rw [List.length_append,List.length_take,List.length_drop];omega
theorem addV_getD {v w : List Int} (h : v.length=w.length) {j : Nat} (hj : j < v.length) : (addV v w).getD j 0=gx (v.getD j 0) (w.getD j 0):=by
  have hw : j < w.length:=by omega
  have hz : j < (addV v w).length:=by rw [addV_length];omega
  rw [show (addV v w).getD j 0=(addV v w)[j] by simp [List.getD,hz],show v.getD j 0=v[j] by simp [List.getD,hj],show w.getD j 0=w[j] by simp [List.getD,hw]]
  simp [addV]
theorem scale_getD {a : Int} {v : List Int} {j : Nat} (hj : j < v.length) : (scale a v).getD j 0=mul a (v.getD j 0):=by simp [scale,List.getD,hj]
theorem bt_getD (s : ByteArray) (j : Nat) : bt s (j : Int)=(bytesOf s).getD j 0:=by rw [← rd_bytesOf,rd_nat]
theorem bt_byte (s : ByteArray) (i : Int) : Byte (bt s i):=by have:=bt_range s i;exact ⟨this.1,by omega⟩
def mtl : Nat→Nat→List Int→List Int
  | 0,_,s=>109 :: s
  | f+1,x,s=>if x=0 then 109 :: s else mtl f (x / 10) ((48+(x % 10 : Nat) : Int) :: s)
def mtx (a : Int) : ByteArray:=if a≤0 then strOfNums [109,48] else strOfNums (mtl 20 a.toNat [])
def markTS (a : Int) (n : Nat) : List ByteArray:=(List.range n).map fun i=>mtx (a+(i : Nat))
theorem markTS_length (a : Int) (n : Nat) : (markTS a n).length=n:=by simp [markTS]
theorem markTS_get (a : Int) (n i : Nat) (h : i < n) : txt (markTS a n) i=mtx (a+(i : Nat)):=by simp [markTS,txt,List.getD,h]
def goodStripe (D P : List ByteArray) : Bool:=decide ((1≤(D.length : Int)∧(D.length : Int)≤16)∧1≤(P.length : Int)∧(P.length : Int)≤4) && textsOk (D ++ P)
theorem idM_row (n : Nat) : ∀ r ∈ idM n,Bytes r∧r.length=n:=by
  intro r hr
  simp only [idM,List.mem_map] at hr
  obtain ⟨i,_,rfl⟩:=hr
  refine ⟨fun x hx=>?_,by simp⟩
  rcases List.mem_or_eq_of_mem_set hx with h | h
  · rw [(List.mem_replicate.1 h).2];exact Byte.zero
  · rw [h];exact Byte.one
theorem tab_row {n m : Nat} {f : Nat→Nat→Int} (h : ∀ i j,Byte (f i j)) : ∀ r ∈ tab n m f,Bytes r∧r.length=m:=by
  have hb : matBytes (tab n m f):=tab_bytes fun i _ j _=>h i j
  intro r hr
  refine ⟨hb r hr,?_⟩
  simp only [tab,List.mem_map] at hr
  obtain ⟨i,_,rfl⟩:=hr
  simp
theorem idM_length (n : Nat) : (idM n).length=n:=by simp [idM]
theorem rows_append {n : Nat} {a b : List (List Int)} (ha : ∀ r ∈ a,Bytes r∧r.length=n) (hb : ∀ r ∈ b,Bytes r∧r.length=n) : ∀ r ∈ a ++ b,Bytes r∧r.length=n:=by
  intro r hr
  rcases List.mem_append.1 hr with h | h
  · exact ha r h
  · exact hb r h
def cauAt (m i j : Nat) : Int:=inv ((Go.bits .xor .i64 (wrap64 ((m : Int)+(i : Int))) (j : Int)) % 256)
theorem mod_byte (x : Int) : Byte (x % 256):=⟨Int.emod_nonneg _ (by decide),Int.emod_lt_of_pos _ (by decide)⟩
def grpAt (e i j : Nat) : Int:=if j / e=i then 1 else 0
theorem grpAt_byte (e i j : Nat) : Byte (grpAt e i j):=by
  unfold grpAt
  split
  · exact Byte.one
  · exact Byte.zero
def localM (g e m : Nat) : List (List Int):=idM (g*e) ++ tab g (g*e) (grpAt e) ++ tab m (g*e) (cauAt (g*e))
theorem localM_length (g e m : Nat) : (localM g e m).length=g*e+g+m:=by unfold localM;rw [List.length_append,List.length_append,idM_length,tab_length,tab_length]
theorem localM_rows (g e m : Nat) : ∀ r ∈ localM g e m,Bytes r∧r.length=g*e:=rows_append (rows_append (idM_row _) (tab_row fun i j=>grpAt_byte e i j)) (tab_row fun i j=>Byte.inv (mod_byte _))
def grpPart (n e i t : Nat) : List Int:=(List.range n).map fun j=>if i*e≤j∧j < i*e+t then 1 else 0
theorem grpPart_zero (n e i : Nat) : List.replicate n 0=grpPart n e i 0:=by
  apply List.ext_getElem
  · simp [grpPart]
  · intro j h1 h2
    simp only [grpPart,List.getElem_replicate,List.getElem_map,List.getElem_range]
    rw [if_neg (by omega)]
theorem grpPart_length (n e i t : Nat) : (grpPart n e i t).length=n:=by simp [grpPart]
theorem grpPart_set (n e i t : Nat) : (grpPart n e i t).set (i*e+t) 1=grpPart n e i (t+1):=by
  unfold grpPart
  rw [row_set]
  apply List.map_congr_left
  intro j hj
  by_cases c : j=i*e+t
  · rw [if_pos c,if_pos (by omega)]
  · rw [if_neg c]
    by_cases c2 : i*e≤j∧j < i*e+t
    · rw [if_pos c2,if_pos (by omega)]
    · rw [if_neg c2,if_neg (by omega)]
theorem grpPart_all (n e i : Nat) (he : 0 < e) : grpPart n e i e=(List.range n).map (grpAt e i):=by
  unfold grpPart
  apply List.map_congr_left
  intro j hj
  unfold grpAt
  have hd : j / e=i↔i*e≤j∧j < i*e+e:=by
    constructor
    · intro h
      subst h
      have h1:=Nat.div_mul_le_self j e
      have h2:=Nat.lt_div_mul_add he (a:=j)
      omega
    · intro h
      exact Nat.div_eq_of_lt_le (by omega) (by rw [Nat.succ_mul];omega)
  by_cases c : j / e=i
  · rw [if_pos c,if_pos (hd.1 c)]
  · rw [if_neg c,if_neg (fun z=>c (hd.2 z))]
theorem GoodLocal_nat {g e m : Int} (h : GoodLocal g e m) : ∃ a b c : Nat,g=a∧e=b∧m=c∧1≤a∧a≤4∧1≤b∧b≤4∧a*b≤8∧1≤c∧c≤4∧(a : Int)*(b : Int)=((a*b : Nat) : Int):=by
  have h0:=h
  obtain ⟨⟨⟨h1,h2⟩,h3,h4⟩,h5,h6,h7⟩:=h
  have em : ((g.toNat*e.toNat : Nat) : Int)=g*e:=by rw [Int.natCast_mul,Int.toNat_of_nonneg (by omega),Int.toNat_of_nonneg (by omega)]
  exact ⟨g.toNat,e.toNat,m.toNat,by omega,by omega,by omega,by omega,by omega,by omega,by omega,by omega,by omega,by omega,by rw [Int.natCast_mul]⟩
def alike (D P E Q : List ByteArray) : Bool:=goodStripe D P && (goodStripe E Q && (decide (P.length=Q.length) && decide ((txt D 0).size=(txt E 0).size)))
theorem take_set_T (l : List ByteArray) (i : Nat) (v : ByteArray) (h : i < l.length) : (l.set i v).take (i+1)=l.take i ++ [v]:=by
  rw [List.take_succ_eq_append_getElem (by simpa using h)]
  simp [List.take_set_of_le]
end Go.Proofs.Ytajikfnpcobnpaa.Kit
-- SQUEEZED
