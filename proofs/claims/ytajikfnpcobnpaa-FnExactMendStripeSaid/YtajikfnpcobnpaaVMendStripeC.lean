import Derived.Test.YtajikfnpcobnpaaVMendStripeA
import Derived.Deep.Strs
/- Words for the walk through a law: what is the law's own lies between two heights of the heap; no program stands here. -/
namespace Go.Proofs.Ytajikfnpcobnpaa.LawKit
open Go.RowKit Go.Proofs.YtajikfnpcobnpaaW.PrintWords Go.Proofs.YtajikfnpcobnpaaW.PrintLast
set_option linter.unusedVariables false
set_option linter.unusedSimpArgs false
theorem calls_named {P : Program} {f : FuncId} {args : Array Value} {w : World} {Q : Ending→World→Prop} (h : ∀ W,W=w→Calls P f args W Q) : Calls P f args w Q:=h w rfl
section
variable {α : Type} {d : Kd α} {e b lo hi : Nat} {ok P : Nat→Prop} {w W W' : World} {v : Value} {xs : List α}
structure OwnS {α : Type} (d : Kd α) (e b lo hi : Nat) (W : World) (v : Value) (xs : List α) : Prop where mk :: (out : Kd.S d e W b (fun k=>lo≤k∧k < hi) v xs)
structure OwnR {α : Type} (d : Kd α) (e b lo hi : Nat) (W : World) (v : Value) (xs : List α) : Prop where mk :: (out : d.R e W b (fun k=>lo≤k∧k < hi) v xs)
structure OwnN {α : Type} (d : Kd α) (e b lo hi : Nat) (W : World) (v : Value) (xs : List α) : Prop where mk :: (out : Kd.N d e W b (fun k=>lo≤k∧k < hi) v xs)
theorem OwnN.new (h : Kd.N d e W' W.heap.size (fun k=>W.heap.size≤k) v xs) (hb : b≤W.heap.size) : OwnN d e b W.heap.size W'.heap.size W' v xs :=
  ⟨Kd.N_lower (Kd.N_mono (Kd.N_bound h) (fun _ hk=>⟨hk.1,hk.2⟩)) hb⟩
theorem OwnN.below (h : OwnN d e b lo hi W v xs) (hb : Below W.heap.size W W') : OwnN d e b lo hi W' v xs:=⟨Kd.N_below h.out hb⟩
theorem OwnN.kept (h : OwnN d e b lo hi W v xs) (hk : Kept W W' P) (hne : ∀ k,lo≤k→k < hi→¬ P k) : OwnN d e b lo hi W' v xs:=⟨Kd.N_kept h.out hk (fun k h=>hne k h.1 h.2)⟩
theorem OwnN.slice (h : OwnN d e b lo hi W v xs) : ∃ A c,v = .slice A xs.length c:=Kd.N_slice h.out
theorem OwnN.C {A : Option Addr} {n c : Nat} (h : OwnN d e b lo hi W (.slice A n c) xs) : d.C W A xs.length xs:=(Kd.N_reads' h.out).2.2
theorem OwnN.cap {A : Option Addr} {n c : Nat} (h : OwnN d e b lo hi W (.slice A n c) xs) : xs.length≤c:=(Kd.N_reads' h.out).1 ▸ (Kd.N_reads' h.out).2.1
theorem OwnS.new (h : Kd.S d e W' W.heap.size ok v xs) (hb : b≤W.heap.size) : OwnS d e b W.heap.size W'.heap.size W' v xs :=
  ⟨Kd.S_lower (Kd.S_mono (Kd.S_bound h) (fun _ hk=>⟨hk.2.1,hk.2.2.1⟩)) hb⟩
theorem OwnR.new (h : d.R e W' W.heap.size ok v xs) (hb : b≤W.heap.size) : OwnR d e b W.heap.size W'.heap.size W' v xs :=
  ⟨Kd.R_lower (Kd.R_mono (Kd.R_bound h) (fun _ hk=>⟨hk.2.1,hk.2.2.1⟩)) hb⟩
theorem OwnS.below (h : OwnS d e b lo hi W v xs) (hb : Below W.heap.size W W') : OwnS d e b lo hi W' v xs:=⟨Kd.S_below h.out hb⟩
theorem OwnR.below (h : OwnR d e b lo hi W v xs) (hb : Below W.heap.size W W') : OwnR d e b lo hi W' v xs:=⟨Kd.R_below h.out hb⟩
theorem OwnS.kept (h : OwnS d e b lo hi W v xs) (hk : Kept W W' P) (hne : ∀ k,lo≤k→k < hi→¬ P k) : OwnS d e b lo hi W' v xs:=⟨Kd.S_kept h.out hk (fun k h=>hne k h.1 h.2)⟩
theorem OwnR.kept (h : OwnR d e b lo hi W v xs) (hk : Kept W W' P) (hne : ∀ k,lo≤k→k < hi→¬ P k) : OwnR d e b lo hi W' v xs:=⟨Kd.R_kept h.out hk (fun k h=>hne k h.1 h.2)⟩
theorem OwnS.far (h : OwnS d e b lo hi W v xs) {p : Addr} (hne : ¬ (lo≤p.block∧p.block < hi)) (u : Value) : OwnS d e b lo hi (W.setCell p u) v xs:=⟨Kd.S_far h.out (fun k hk e=>hne (e ▸ hk)) u⟩
theorem OwnR.far (h : OwnR d e b lo hi W v xs) {p : Addr} (hne : ¬ (lo≤p.block∧p.block < hi)) (u : Value) : OwnR d e b lo hi (W.setCell p u) v xs:=⟨Kd.R_far h.out (fun k hk e=>hne (e ▸ hk)) u⟩
theorem OwnN.far (h : OwnN d e b lo hi W v xs) {p : Addr} (hne : ¬ (lo≤p.block∧p.block < hi)) (u : Value) : OwnN d e b lo hi (W.setCell p u) v xs:=⟨Kd.N_far h.out (fun k hk e=>hne (e ▸ hk)) u⟩
theorem OwnS.slice (h : OwnS d e b lo hi W v xs) : ∃ A c,v = .slice A xs.length c:=Kd.S_slice h.out
theorem OwnR.slice (h : OwnR d e b lo hi W v xs) : ∃ A c,v = .slice A xs.length c:=Kd.R_slice h.out
theorem OwnS.C {A : Option Addr} {n c : Nat} (h : OwnS d e b lo hi W (.slice A n c) xs) : d.C W A xs.length xs:=(Kd.S_reads' h.out).1 ▸ (Kd.S_reads' h.out).1 ▸ (Kd.S_reads' h.out).2.2
theorem OwnR.C {A : Option Addr} {n c : Nat} (h : OwnR d e b lo hi W (.slice A n c) xs) : d.C W A xs.length xs:=(Kd.R_reads' h.out).1 ▸ (Kd.R_reads' h.out).1 ▸ (Kd.R_reads' h.out).2.2
theorem OwnS.cap {A : Option Addr} {n c : Nat} (h : OwnS d e b lo hi W (.slice A n c) xs) : xs.length≤c:=(Kd.S_reads' h.out).1 ▸ (Kd.S_reads' h.out).2.1
theorem OwnR.cap {A : Option Addr} {n c : Nat} (h : OwnR d e b lo hi W (.slice A n c) xs) : xs.length≤c:=(Kd.R_reads' h.out).1 ▸ (Kd.R_reads' h.out).2.1
/-- Behind a writing call: marked rows. -/
theorem OwnR.marked {lo2 : Nat} {ys : List α} (hE : d.E=[]) (h : OwnR d e b lo hi W v xs) (h2 : d.R e W' b (fun k=>(lo≤k∧k < hi)∨lo2≤k) v ys) : OwnR d e b lo hi W' v ys :=
  ⟨Kd.R_mono (Kd.R_tight hE h2) (fun k hk=>h.out.1 k hk.symm)⟩
theorem OwnR.marked2 {ok : Nat→Prop} {ys : List α} (hE : d.E=[]) (h : OwnR d e b lo hi W v xs) (h2 : d.R e W' b ok v ys) : OwnR d e b lo hi W' v ys :=
  ⟨Kd.R_mono (Kd.R_tight hE h2) (fun k hk=>h.out.1 k hk.symm)⟩
/-- Of a row that leads to nothing: its own block alone. -/
theorem OwnR.tight (hE : d.E=[]) (h : OwnR d e b lo hi W v xs) : d.R e W b (fun k=>some k=v.ownBlock) v xs:=Kd.R_tight hE h.out
theorem OwnR.inside (h : OwnR d e b lo hi W v xs) {k : Nat} (hk : some k=v.ownBlock) : lo≤k∧k < hi:=h.out.1 k hk.symm
theorem kept_mono {P' : Nat→Prop} (h : Kept W W' P) (hp : ∀ k,P k→P' k) : Kept W W' P':=⟨h.1,fun k hlt hn=>h.2 k hlt (fun hk=>hn (hp k hk))⟩
theorem below_on {b : Nat} {w W W' : World} (h : Below b w W) (hb : b≤W.heap.size) (k : Below W.heap.size W W') : Below b w W':=below_then h hb k
end
end Go.Proofs.Ytajikfnpcobnpaa.LawKit
/- How an argument that came in reads as a value of a printed kind: whole numbers, strings, slices, structs of up to three fields; no program stands here. -/
namespace Go.Proofs.Ytajikfnpcobnpaa.Lift
open Go.RowKit Go.ChangeShapes Go.WideShapes Go.Deep Go.Proofs.YtajikfnpcobnpaaW.PrintWords Go.Proofs.YtajikfnpcobnpaaW.PrintLast
set_option linter.unusedVariables false
set_option linter.unusedSimpArgs false
section
variable {H : Type} {enc : TypeId × Value→H} {P : Program} {w : World} {α β γ δ : Type}

/-- Whatever is read at type t is a value of the kind, and is well. -/
def Opens {H : Type} (enc : TypeId × Value→H) (P : Program) (w : World) (t : TypeId) (d : Kd α) (wf : α→Prop) : Prop :=
  ∀ fuel cs x,DataW.trod enc P w 0 (fun _=>true) true fuel t cs=some x→∃ y,d.K w y cs∧wf y
theorem Opens.int {t : TypeId} {k : IntKind} (hu : P.underlying t=some (.int k)) : Opens enc P w t (Kd.int k) (fun x=>(Lit.int k x).wf=true):=by
  intro fuel cs x h
  obtain ⟨n,rfl,_,hw⟩:=DataW.trod_int hu h
  exact ⟨n,rfl,hw⟩
theorem Opens.string {t : TypeId} (hu : P.underlying t=some .string) : Opens enc P w t Kd.string (fun x=>x.size≤maxLen):=by
  intro fuel cs x h
  obtain ⟨n,rfl,_,hw⟩:=DataW.trod_string hu h
  exact ⟨n,rfl,hw⟩
theorem list_of {n : Nat} {p : Nat→α→Prop} (h : ∀ i,i < n→∃ x,p i x) : ∃ l : List α,l.length=n∧∀ (j : Nat) (x : α),l[j]? = some x→p j x:=by
  classical
  refine ⟨List.ofFn fun i : Fin n=>Classical.choose (h i.1 i.2),by simp,fun j x hx=>?_⟩
  obtain ⟨hj,e⟩:=List.getElem?_eq_some_iff.1 hx
  simp only [List.getElem_ofFn] at e
  subst e
  exact Classical.choose_spec (h j (by simpa using hj))
theorem Opens.slice {t e : TypeId} {d : Kd α} {wf : α→Prop} (hu : P.underlying t=some (.slice e)) (he : Opens enc P w e d wf) (hc : P.cellsOf e=d.sz) :
    Opens enc P w t (Kd.slice e d) (fun xs=>xs.length≤maxLen∧∀ x ∈ xs,wf x):=by
  intro fuel cs x h
  rcases open_slice hu h with ⟨rfl,_⟩ | ⟨a,len,cap,m,n,D,Pl,rfl,hb,hl,hm,hmm,_,hx⟩
  · exact ⟨[],⟨none,0,rfl,Nat.le_refl _,rfl,by simp,fun h0=>absurd h0 (by simp)⟩,by simp [maxLen],by simp⟩
  · simp only [if_true] at hmm
    subst hmm
    have each : ∀ i,i < len→∃ y,(∃ c,c.length=d.sz∧d.K w y c∧∀ j u,c[j]? = some u→w.cell? (a.add (i*d.sz+j))=some u)∧wf y:=by
      intro i hi
      obtain ⟨cs',hcs,hd⟩:=hx i (by omega)
      obtain ⟨y,hy,hw⟩:=he _ _ _ hd
      obtain ⟨_,hlen,hcell⟩:=World.cells?_some hcs
      refine ⟨y,⟨cs',by omega,hy,fun j u hj=>?_⟩,hw⟩
      have hjl:=(List.getElem?_eq_some_iff.1 hj).1
      rw [← Deep.add_add,← hc,hcell j (by omega)]
      exact hj
    obtain ⟨l,hll,hle⟩:=list_of each
    refine ⟨l,⟨some a,m,by rw [hll],by omega,rfl,?_,fun _=>⟨a,rfl,fun j p hj=>(hle j p hj).1⟩⟩,by omega,fun y hy=>?_⟩
    · unfold maxLen at hm
      omega
    · obtain ⟨j,hj,e⟩:=List.getElem_of_mem hy
      exact (hle j y (by rw [← e];exact List.getElem?_eq_getElem hj)).2
theorem Opens.struct2 {t : TypeId} {f0 f1 : Field} {d0 : Kd α} {d1 : Kd γ} {w0 : α→Prop} {w1 : γ→Prop} (hs : P.underlying t=some (.struct #[f0,f1])) (h0 : Opens enc P w f0.type d0 w0) (h1 : Opens enc P w f1.type d1 w1)
    (o0 : f0.offset=0) (o1 : f1.offset=P.cellsOf f0.type) (c1 : P.cellsOf t=P.cellsOf f0.type+P.cellsOf f1.type) (f : β→α × γ) (g : α × γ→β) (hfg : ∀ x,f (g x)=x) :
    Opens enc P w t (Kd.iso (Kd.pair d0 d1) f) (fun x=>w0 (f x).1∧w1 (f x).2):=by
  intro fuel cs x h
  obtain ⟨y0,y1,n,_,hl,e0,e1⟩:=trod_struct2 hs h
  rw [o0,List.drop_zero] at e0
  rw [o1,List.take_of_length_le (by rw [List.length_drop];omega)] at e1
  obtain ⟨x0,k0,m0⟩:=h0 _ _ _ e0
  obtain ⟨x1,k1,m1⟩:=h1 _ _ _ e1
  refine ⟨g (x0,x1),?_,?_⟩
  · show (Kd.pair d0 d1).K w (f (g (x0,x1))) cs
    rw [hfg]
    exact ⟨_,_,(List.take_append_drop _ _).symm,k0,k1⟩
  · show w0 (f (g (x0,x1))).1∧w1 (f (g (x0,x1))).2
    rw [hfg];exact ⟨m0,m1⟩
theorem Opens.id {t : TypeId} {d : Kd α} {wf : α→Prop} (h : Opens enc P w t d wf) {v : Value} {x : DataW H} {p : List MemPlace} (ht : DataW.Trod enc P w 0 (fun _=>true) true t v x p) : ∃ y,d.K w y v.cells.toList∧wf y:=by
  obtain ⟨fuel,hf⟩:=ht
  exact h _ _ _ hf
theorem agg_of {cs : Array Value} {l : List Value} (h : (Value.agg cs).cells.toList=l) : Value.agg cs = .agg l.toArray:=by
  subst h
  simp [Value.cells]
end
end Go.Proofs.Ytajikfnpcobnpaa.Lift
/- Words for texts: their bytes, their sums and products, what marks them; no program stands here. -/
namespace Go.Proofs.Ytajikfnpcobnpaa.Kit
open Go.RowKit Go.Proofs.YtajikfnpcobnpaaW.PrintWords Go.Proofs.YtajikfnpcobnpaaW.PrintLast Go.Proofs.Ytajikfnpcobnpaa.Gf Go.Proofs.Ytajikfnpcobnpaa.KitW
set_option linter.unusedVariables false
set_option linter.unusedSimpArgs false
theorem bytes_bytesOf (s : ByteArray) : Bytes (bytesOf s):=by
  intro x hx
  simp only [bytesOf,List.mem_map] at hx
  obtain ⟨b,_,rfl⟩:=hx
  exact ⟨by omega,by have:=b.toNat_lt;omega⟩
theorem bytesOf_str {l : List Int} (h : Bytes l) : bytesOf (strOfNums l)=l:=by
  unfold bytesOf
  rw [strOfNums_data,List.map_map]
  have : ∀ x ∈ l,((fun b : UInt8=>(b.toNat : Int)) ∘ fun n : Int=>UInt8.ofNat n.toNat) x=x:=by
    intro x hx
    have hb:=h x hx
    unfold Byte at hb
    simp only [Function.comp_apply,UInt8.toNat_ofNat']
    omega
  rw [List.map_congr_left this,List.map_id']
theorem str_append (a b : List Int) : strOfNums a ++ strOfNums b=strOfNums (a ++ b):=by
  apply ByteArray.ext
  rw [ByteArray.data_append]
  unfold strOfNums
  simp
/-- A text of a list. -/
abbrev txt (l : List ByteArray) (i : Nat) : ByteArray:=l.getD i ByteArray.empty
theorem rdOf_nat (l : List ByteArray) (i : Nat) : rdOf ByteArray.empty l (i : Int)=txt l i:=by unfold rdOf;simp
theorem rdOf_zero (l : List ByteArray) : rdOf ByteArray.empty l 0=txt l 0:=rdOf_nat l 0
theorem txt_get {l : List ByteArray} {i : Nat} (h : i < l.length) : txt l i=l[i]:=by simp [txt,List.getD,h]
theorem txt_mem {l : List ByteArray} {i : Nat} (h : i < l.length) : txt l i ∈ l:=by rw [txt_get h];exact List.getElem_mem h
/-- How many bytes texts have. -/
def totT : List ByteArray→Nat
  | []=>0
  | s :: l=>s.size+totT l
theorem mem_totT {l : List ByteArray} {s : ByteArray} (h : s ∈ l) : s.size≤totT l:=by
  induction l with
  | nil=>simp at h
  | cons x l ih =>
    rcases List.mem_cons.1 h with rfl | h
    · simp [totT]
    · have:=ih h;simp only [totT];omega
/-- Texts that are not too many, and not too long. -/
def textsLe (n : Nat) (l : List ByteArray) : Prop:=l.length≤n∧∀ s ∈ l,s.size≤n
theorem textsLe_of {l : List ByteArray} (h : (l.length : Int)+(totT l : Int)≤1048576) : textsLe 1048576 l:=⟨by omega,fun s hs=>by have:=mem_totT hs;omega⟩
theorem textsLe.txt {n : Nat} {l : List ByteArray} (h : textsLe n l) (i : Nat) : (txt l i).size≤n:=by
  by_cases hi : i < l.length
  · exact h.2 _ (txt_mem hi)
  · simp [Kit.txt,List.getD,hi]
theorem textsLe.append {n m : Nat} {a b : List ByteArray} (ha : textsLe n a) (hb : textsLe m b) : textsLe (n+m) (a ++ b):=by
  refine ⟨by have:=ha.1;have:=hb.1;simp;omega,fun s hs=>?_⟩
  rcases List.mem_append.1 hs with h | h
  · have:=ha.2 s h;omega
  · have:=hb.2 s h;omega
/-- A text too long, or of another length than the first one. -/
def badT (l : List ByteArray) (j : Nat) : Bool:=decide (40 < (txt l j).size) || (txt l j).size != (txt l 0).size
theorem textsOk_bad (l : List ByteArray) : textsOk l = !((List.range l.length).any fun j=>badT l j):=rfl
theorem textsOk_all {l : List ByteArray} (h : textsOk l=true) : ∀ j,j < l.length→(txt l j).size=(txt l 0).size∧(txt l j).size≤40:=by
  intro j hj
  rw [textsOk_bad] at h
  have h3 : ((List.range l.length).any fun j=>badT l j)=false:=by simpa using h
  rw [List.any_eq_false] at h3
  have h4 : badT l j=false:=by
    have:=h3 j (by simpa using hj)
    simpa using this
  unfold badT at h4
  rw [Bool.or_eq_false_iff,bne_eq_false_iff_eq] at h4
  have h5:=of_decide_eq_false h4.1
  exact ⟨h4.2,by omega⟩
/-- One text of several, told by a row of factors: the first k of them. -/
def mixTo (r : List Int) (D : List ByteArray) (n : Nat) : Nat→List Int
  | 0=>List.replicate n 0
  | k+1=>addV (mixTo r D n k) (scale (r.getD k 0) (bytesOf (txt D k)))
def mixT (R : List (List Int)) (D : List ByteArray) : List ByteArray:=R.map fun r=>strOfNums (mixTo r D (txt D 0).size D.length)
theorem mixT_length (R : List (List Int)) (D : List ByteArray) : (mixT R D).length=R.length:=by simp [mixT]
theorem mixTo_ok {r : List Int} {D : List ByteArray} {n : Nat} (hr : Bytes r) (hD : ∀ j,j < D.length→(txt D j).size=n) : ∀ k,k≤D.length→Bytes (mixTo r D n k)∧(mixTo r D n k).length=n
  | 0,_=>⟨fun x hx=>by rw [(List.mem_replicate.1 hx).2];exact Byte.zero,by simp [mixTo]⟩
  | k+1,hk=>by
    obtain ⟨h1,h2⟩:=mixTo_ok hr hD k (by omega)
    have h3:=hD k (by omega)
    refine ⟨addV_bytes h1 (scale_bytes (bytes_getD hr k) _),?_⟩
    unfold mixTo
    rw [addV_length,scale_length,bytesOf_length,h2,h3]
    exact Nat.min_self n
theorem mixT_size {R : List (List Int)} {D : List ByteArray} (hR : matBytes R) (hD : ∀ j,j < D.length→(txt D j).size=(txt D 0).size) : ∀ s ∈ mixT R D,s.size=(txt D 0).size:=by
  intro s hs
  simp only [mixT,List.mem_map] at hs
  obtain ⟨r,hr,rfl⟩:=hs
  rw [strOfNums_size]
  exact (mixTo_ok (hR r hr) hD _ (Nat.le_refl _)).2
/-- Two lists, the first up to a place, the second from there on. -/
theorem half_set {v b : List Int} (h : v.length=b.length) {j : Nat} (hj : j < b.length) : (v.take j ++ b.drop j).set j (v.getD j 0)=v.take (j+1) ++ b.drop (j+1):=by
  have hl : (v.take j).length=j:=by rw [List.length_take];omega
  have hv : j < v.length:=by omega
  have e : v.getD j 0=v[j]:=by simp [List.getD,hv]
  rw [List.set_append_right _ _ (by omega),hl,Nat.sub_self,List.drop_eq_getElem_cons hj,List.set_cons_zero,List.take_succ_eq_append_getElem hv,e,List.append_assoc]
  rfl
theorem half_get {v b : List Int} (h : v.length=b.length) {j : Nat} (hj : j < b.length) : rd (v.take j ++ b.drop j) (j : Int)=b.getD j 0:=by
  have hl : (v.take j).length=j:=by rw [List.length_take];omega
  rw [rd_nat,List.getD_eq_getElem?_getD,List.getElem?_append_right (by omega),hl,Nat.sub_self,List.getElem?_drop,Nat.add_zero,List.getD_eq_getElem?_getD]
theorem half_length {v b : List Int} (h : v.length=b.length) {j : Nat} (hj : j≤b.length) : (v.take j ++ b.drop j).length=b.length:=by
  rw [List.length_append,List.length_take,List.length_drop];omega
theorem addV_getD {v w : List Int} (h : v.length=w.length) {j : Nat} (hj : j < v.length) : (addV v w).getD j 0=gx (v.getD j 0) (w.getD j 0):=by
  have hw : j < w.length:=by omega
  have hz : j < (addV v w).length:=by rw [addV_length];omega
  rw [show (addV v w).getD j 0=(addV v w)[j] by simp [List.getD,hz],show v.getD j 0=v[j] by simp [List.getD,hj],show w.getD j 0=w[j] by simp [List.getD,hw]]
  simp [addV]
theorem scale_getD {a : Int} {v : List Int} {j : Nat} (hj : j < v.length) : (scale a v).getD j 0=mul a (v.getD j 0):=by simp [scale,List.getD,hj]
theorem bt_getD (s : ByteArray) (j : Nat) : bt s (j : Int)=(bytesOf s).getD j 0:=by rw [← rd_bytesOf,rd_nat]
theorem bt_byte (s : ByteArray) (i : Int) : Byte (bt s i):=by have:=bt_range s i;exact ⟨this.1,by omega⟩
/-- The digits of a number, behind a letter. -/
def mtl : Nat→Nat→List Int→List Int
  | 0,_,s=>109 :: s
  | f+1,x,s=>if x=0 then 109 :: s else mtl f (x / 10) ((48+(x % 10 : Nat) : Int) :: s)
def mtx (a : Int) : ByteArray:=if a≤0 then strOfNums [109,48] else strOfNums (mtl 20 a.toNat [])
def markTS (a : Int) (n : Nat) : List ByteArray:=(List.range n).map fun i=>mtx (a+(i : Nat))
theorem markTS_length (a : Int) (n : Nat) : (markTS a n).length=n:=by simp [markTS]
theorem markTS_get (a : Int) (n i : Nat) (h : i < n) : txt (markTS a n) i=mtx (a+(i : Nat)):=by simp [markTS,txt,List.getD,h]
/-- Are texts those of a stripe? -/
def goodStripe (D P : List ByteArray) : Bool:=decide ((1≤(D.length : Int)∧(D.length : Int)≤16)∧1≤(P.length : Int)∧(P.length : Int)≤4) && textsOk (D ++ P)
theorem txt_left {a b : List ByteArray} {i : Nat} (h : i < a.length) : txt (a ++ b) i=txt a i:=by
  rw [txt_get h,txt_get (by rw [List.length_append];omega),List.getElem_append_left h]
theorem txt_right {a b : List ByteArray} {i : Nat} : txt (a ++ b) (a.length+i)=txt b i:=by
  unfold txt
  rw [List.getD_eq_getElem?_getD,List.getD_eq_getElem?_getD,List.getElem?_append_right (by omega),Nat.add_sub_cancel_left]
theorem goodStripe_iff {D P : List ByteArray} (h : goodStripe D P=true) : (1≤D.length∧D.length≤16)∧(1≤P.length∧P.length≤4)∧(∀ j,j < D.length→(txt D j).size=(txt D 0).size∧(txt D j).size≤40)∧∀ j,j < P.length→(txt P j).size=(txt D 0).size∧(txt P j).size≤40:=by
  unfold goodStripe at h
  rw [Bool.and_eq_true,decide_eq_true_eq] at h
  obtain ⟨⟨h1,h2⟩,h3⟩:=h
  have hs:=textsOk_all h3
  have hl : (D ++ P).length=D.length+P.length:=List.length_append
  have e0 : txt (D ++ P) 0=txt D 0:=txt_left (by omega)
  refine ⟨by omega,by omega,fun j hj=>?_,fun j hj=>?_⟩
  · have:=hs j (by omega)
    rwa [txt_left hj,e0] at this
  · have:=hs (D.length+j) (by omega)
    rwa [txt_right,e0] at this
theorem idM_length (n : Nat) : (idM n).length=n:=by simp [idM]
def parAt (i j : Nat) : Int:=pow (pow 3 i) j
theorem parTab_rows (n k : Nat) : ∀ r ∈ tab n k parAt,Bytes r∧r.length=k:=by
  have hb : matBytes (tab n k parAt):=tab_bytes fun i _ j _=>Byte.pow (Byte.pow byte3 i) j
  intro r hr
  refine ⟨hb r hr,?_⟩
  simp only [tab,List.mem_map] at hr
  obtain ⟨i,_,rfl⟩:=hr
  simp
theorem scale_one {v : List Int} (h : Bytes v) : scale 1 v=v:=by
  unfold scale
  have : ∀ x ∈ v,mul 1 x=id x:=fun x hx=>one_mul (h x hx)
  rw [List.map_congr_left this,List.map_id]
/-- The sum of two texts, with a factor. -/
def plusT (a : ByteArray) (f : Int) (b : ByteArray) : ByteArray:=strOfNums (addV (bytesOf a) (scale f (bytesOf b)))
theorem plusT_size (a : ByteArray) (f : Int) (b : ByteArray) : (plusT a f b).size=min a.size b.size:=by
  unfold plusT
  rw [strOfNums_size,addV_length,scale_length,bytesOf_length,bytesOf_length]
/-- The sums of the texts of two lists. -/
def sumT (a b : List ByteArray) : List ByteArray:=(List.range a.length).map fun i=>plusT (txt a i) 1 (txt b i)
theorem sumT_length (a b : List ByteArray) : (sumT a b).length=a.length:=by simp [sumT]
theorem sumT_get (a b : List ByteArray) {i : Nat} (h : i < a.length) : txt (sumT a b) i=plusT (txt a i) 1 (txt b i):=by simp [sumT,txt,List.getD,h]
theorem sumT_succ (a b : List ByteArray) {i : Nat} (h : i < a.length) : (sumT a b).take (i+1)=(sumT a b).take i ++ [plusT (txt a i) 1 (txt b i)]:=by
  rw [List.take_succ_eq_append_getElem (by rw [sumT_length];exact h)]
  simp [sumT]
def alike (D P E Q : List ByteArray) : Bool:=goodStripe D P && (goodStripe E Q && (decide (P.length=Q.length) && decide ((txt D 0).size=(txt E 0).size)))
theorem take_set_T (l : List ByteArray) (i : Nat) (v : ByteArray) (h : i < l.length) : (l.set i v).take (i+1)=l.take i ++ [v]:=by
  rw [List.take_succ_eq_append_getElem (by simpa using h)]
  simp [List.take_set_of_le]
end Go.Proofs.Ytajikfnpcobnpaa.Kit
-- SQUEEZED
