import Derived.Test.YteflgifmdojahaaVFnMsrA
import Derived.Deep.Strs
import Derived.Test.YteflgifmdojahaaVFnMsrB
namespace Go.Proofs.Yteflgifmdojahaa.Fld
open Go.Proofs.Yteflgifmdojahaa.Gf (Byte gx gx_comm gx_assoc gx_self gx_zero zero_gx mul_gx gx_mul gx_eq_zero)
set_option linter.unusedVariables false
set_option linter.unusedSimpArgs false
def F8 : Type:={ x : Int // Byte x }
namespace F8
def ad (a b : F8) : F8:=⟨gx a.1 b.1,a.2.gx b.2⟩
def ml (a b : F8) : F8:=⟨Gf.mul a.1 b.1,a.2.mul b.1⟩
def iv (a : F8) : F8:=⟨Gf.inv a.1,a.2.inv⟩
def pw (a : F8) (n : Nat) : F8:=⟨Gf.pow a.1 n,a.2.pow n⟩
instance : Add F8:=⟨ad⟩
instance : Mul F8:=⟨ml⟩
instance : Zero F8:=⟨⟨0, .zero⟩⟩
instance : One F8:=⟨⟨1, .one⟩⟩
instance : Inhabited F8:=⟨0⟩
theorem ext {a b : F8} (h : a.1=b.1) : a=b:=Subtype.ext h
theorem add_val (a b : F8) : (a+b).1=gx a.1 b.1:=rfl
theorem mul_val (a b : F8) : (a*b).1=Gf.mul a.1 b.1:=rfl
theorem add_comm (a b : F8) : a+b=b+a:=ext (gx_comm _ _)
theorem add_assoc (a b c : F8) : a+b+c=a+(b+c):=ext (gx_assoc _ _ _)
theorem mul_comm (a b : F8) : a*b=b*a:=ext (Gf.mul_comm a.2 b.2)
theorem mul_assoc (a b c : F8) : a*b*c=a*(b*c):=ext (Gf.mul_assoc a.2 b.2 c.2)
instance : Std.Associative (α:=F8) (· + ·):=⟨add_assoc⟩
instance : Std.Commutative (α:=F8) (· + ·):=⟨add_comm⟩
instance : Std.Associative (α:=F8) (· * ·):=⟨mul_assoc⟩
instance : Std.Commutative (α:=F8) (· * ·):=⟨mul_comm⟩
theorem add_self (a : F8) : a+a=0:=ext (gx_self _)
theorem add_zero (a : F8) : a+0=a:=ext (gx_zero a.2)
theorem zero_add (a : F8) : 0+a=a:=ext (zero_gx a.2)
theorem mul_zero (a : F8) : a*0=0:=ext (Gf.mul_zero _)
theorem zero_mul (a : F8) : 0*a=0:=ext (Gf.zero_mul _)
theorem mul_one (a : F8) : a*1=a:=ext (Gf.mul_one a.2)
theorem one_mul (a : F8) : 1*a=a:=ext (Gf.one_mul a.2)
theorem mul_add (a b c : F8) : a*(b+c)=a*b+a*c:=ext (mul_gx _ _ _)
theorem add_mul (a b c : F8) : (a+b)*c=a*c+b*c:=ext (gx_mul a.2 b.2 _)
theorem mul_iv {a : F8} (h : a ≠ 0) : a*a.iv=1:=ext (Gf.mul_inv a.2 fun e=>h (ext e))
theorem mul_eq {a b : F8} (h : a*b=0) : a=0∨b=0:=by
  have h1 : Gf.mul a.1 b.1=0:=congrArg Subtype.val h
  rcases Gf.mul_eq_zero a.2 b.2 h1 with e | e
  · exact .inl (ext e)
  · exact .inr (ext e)
theorem one_ne : (1 : F8) ≠ 0:=fun h=>by have:=congrArg Subtype.val h;exact absurd this (by decide)
theorem eq_of_add {a b : F8} (h : a+b=0) : a=b:=ext (gx_eq_zero a.2 b.2 (congrArg Subtype.val h))
theorem add_ne {a b : F8} (h : a ≠ b) : a+b ≠ 0:=fun e=>h (eq_of_add e)
theorem pw_zero (a : F8) : a.pw 0=1:=rfl
theorem pw_succ (a : F8) (n : Nat) : a.pw (n+1)=a.pw n*a:=ext (Gf.pow_succ _ _)
theorem pw_add (a : F8) (m n : Nat) : a.pw (m+n)=a.pw m*a.pw n:=ext (Gf.pow_add a.2 m n)
end F8
open F8
def sm (f : Nat→F8) : Nat→F8
  | 0=>0
  | n+1=>sm f n+f n
theorem sm_congr {f g : Nat→F8} : ∀ n,(∀ k,k < n→f k=g k)→sm f n=sm g n
  | 0,_=>rfl
  | n+1,h=>by unfold sm;rw [sm_congr n (fun k hk=>h k (by omega)),h n (by omega)]
theorem sm_zero : ∀ n,sm (fun _=>0) n=0
  | 0=>rfl
  | n+1=>by unfold sm;rw [sm_zero n,add_zero]
theorem sm_all0 {f : Nat→F8} {n : Nat} (h : ∀ k,k < n→f k=0) : sm f n=0:=(sm_congr n h).trans (sm_zero n)
theorem sm_add (f g : Nat→F8) : ∀ n,sm (fun k=>f k+g k) n=sm f n+sm g n
  | 0=>(add_zero 0).symm
  | n+1=>by unfold sm;rw [sm_add f g n];ac_rfl
theorem sm_mul (a : F8) (f : Nat→F8) : ∀ n,sm (fun k=>a*f k) n=a*sm f n
  | 0=>(mul_zero a).symm
  | n+1=>by unfold sm;rw [sm_mul a f n,mul_add]
theorem sm_mulr (f : Nat→F8) (a : F8) : ∀ n,sm (fun k=>f k*a) n=sm f n*a
  | 0=>(zero_mul a).symm
  | n+1=>by unfold sm;rw [sm_mulr f a n,add_mul]
theorem sm_swap (f : Nat→Nat→F8) (m : Nat) : ∀ n,sm (fun i=>sm (fun j=>f i j) m) n=sm (fun j=>sm (fun i=>f i j) n) m
  | 0=>(sm_zero m).symm
  | n+1=>by
    show sm (fun i=>sm (fun j=>f i j) m) n+sm (fun j=>f n j) m=sm (fun j=>sm (fun i=>f i j) n+f n j) m
    rw [sm_add,sm_swap f m n]
theorem sm_single {f : Nat→F8} {n p : Nat} (hp : p < n) (h : ∀ k,k < n→k ≠ p→f k=0) : sm f n=f p:=by
  induction n with
  | zero=>omega
  | succ n ih =>
    unfold sm
    by_cases e : p=n
    · subst e
      rw [sm_all0 (fun k hk=>h k (by omega) (by omega)),zero_add]
    · rw [ih (by omega) (fun k hk hne=>h k (by omega) hne),h n (by omega) (fun z=>e z.symm),add_zero]
theorem sm_split (f : Nat→F8) (m : Nat) : ∀ n,sm f (m+n)=sm f m+sm (fun k=>f (m+k)) n
  | 0=>(add_zero _).symm
  | n+1=>by
    show sm f (m+n)+f (m+n)=sm f m+(sm (fun k=>f (m+k)) n+f (m+n))
    rw [sm_split f m n,add_assoc]
def ev : List F8→F8→F8
  | [],_=>0
  | c :: p,x=>c+x*ev p x
def qo (a : F8) : List F8→List F8
  | []=>[]
  | [_]=>[]
  | _ :: c :: p=>ev (c :: p) a :: qo a (c :: p)
theorem qo_length (a : F8) : ∀ p,(qo a p).length=p.length - 1
  | []=>rfl
  | [_]=>rfl
  | _ :: c :: p=>by
    have:=qo_length a (c :: p)
    simp only [qo,List.length_cons] at this ⊢
    omega
theorem ev_qo (a x : F8) : ∀ p,ev p x=ev p a+(x+a)*ev (qo a p) x
  | []=>by simp only [ev,qo];rw [mul_zero,add_zero]
  | [c]=>by simp only [ev,qo,mul_zero,add_zero]
  | c :: d :: p=>by
    have h:=ev_qo a x (d :: p)
    show c+x*ev (d :: p) x=c+a*ev (d :: p) a+(x+a)*(ev (d :: p) a+x*ev (qo a (d :: p)) x)
    rw [h]
    generalize ev (d :: p) a=u
    generalize ev (qo a (d :: p)) x=q
    rw [mul_add x,mul_add (x+a),add_mul x a u]
    have e1 : x*((x+a)*q)=(x+a)*(x*q):=by ac_rfl
    rw [e1]
    have e2 : c+a*u+(x*u+a*u+(x+a)*(x*q))=(a*u+a*u)+(c+(x*u+(x+a)*(x*q))):=by ac_rfl
    rw [e2,add_self,zero_add]
theorem qo_zero (a : F8) : ∀ p,(∀ c ∈ qo a p,c=0)→ev p a=0→∀ c ∈ p,c=0
  | [],_,_=>by simp
  | [c],_,h=>by
    intro d hd
    simp only [List.mem_singleton] at hd
    subst hd
    simpa [ev,mul_zero,add_zero] using h
  | c :: d :: p,hq,h=>by
    have h1 : ev (d :: p) a=0:=hq _ (by simp [qo])
    have h2:=qo_zero a (d :: p) (fun z hz=>hq z (by simp only [qo];exact List.mem_cons_of_mem _ hz)) h1
    have h3 : c+a*ev (d :: p) a=0:=h
    rw [h1,mul_zero,add_zero] at h3
    intro z hz
    rcases List.mem_cons.1 hz with rfl | hz
    · exact h3
    · exact h2 z hz
theorem roots : ∀ (n : Nat) (p : List F8) (x : Nat→F8),p.length=n→(∀ i j,i < n→j < n→x i=x j→i=j)→(∀ i,i < n→ev p (x i)=0)→∀ c ∈ p,c=0
  | 0,p,x,hl,_,_=>by have : p=[]:=List.eq_nil_of_length_eq_zero hl;subst this;simp
  | n+1,p,x,hl,hx,h=>by
    refine qo_zero (x n) p (roots n (qo (x n) p) x (by rw [qo_length];omega) (fun i j hi hj=>hx i j (by omega) (by omega)) (fun i hi=>?_)) (h n (by omega))
    have h1:=ev_qo (x n) (x i) p
    rw [h i (by omega),h n (by omega),zero_add] at h1
    rcases mul_eq h1.symm with e | e
    · exact absurd (hx i n (by omega) (by omega) (eq_of_add e)) (by omega)
    · exact e
theorem ev_range (c : Nat→F8) (x : F8) : ∀ n,ev ((List.range n).map c) x=sm (fun j=>x.pw j*c j) n:=by
  intro n
  induction n generalizing c with
  | zero=>rfl
  | succ n ih =>
    rw [List.range_succ_eq_map,List.map_cons,List.map_map]
    show c 0+x*ev ((List.range n).map (fun j=>c (j+1))) x=_
    rw [ih]
    have e : n+1=1+n:=by omega
    rw [e,sm_split]
    show _=(0+x.pw 0*c 0)+_
    rw [zero_add,pw_zero,one_mul,← sm_mul]
    congr 1
    apply sm_congr
    intro k _
    show x*(x.pw k*c (k+1))=x.pw (1+k)*c (1+k)
    rw [show 1+k=k+1 by omega,pw_succ]
    ac_rfl
theorem vander {n : Nat} {x : Nat→F8} {c : Nat→F8} (hx : ∀ i j,i < n→j < n→x i=x j→i=j) (h : ∀ i,i < n→sm (fun j=>(x i).pw j*c j) n=0) : ∀ j,j < n→c j=0:=by
  intro j hj
  refine roots n ((List.range n).map c) x (by simp) hx (fun i hi=>by rw [ev_range];exact h i hi) (c j) ?_
  exact List.mem_map.2 ⟨j,by simpa using hj,rfl⟩
theorem ev_add (x : F8) : ∀ (p q : List F8),p.length=q.length→ev (List.zipWith (· + ·) p q) x=ev p x+ev q x:=by
  intro p
  induction p with
  | nil =>
    intro q h
    cases q with
    | nil=>exact (add_zero 0).symm
    | cons d q=>simp at h
  | cons c p ih =>
    intro q h
    cases q with
    | nil=>simp at h
    | cons d q =>
      show c+d+x*ev (List.zipWith (· + ·) p q) x=c+x*ev p x+(d+x*ev q x)
      rw [ih q (by simpa using h),mul_add]
      generalize x*ev p x=u
      generalize x*ev q x=v
      ac_rfl
theorem ev_scale (a x : F8) (p : List F8) : ev (p.map fun c=>a*c) x=a*ev p x:=by
  induction p with
  | nil=>exact (mul_zero a).symm
  | cons c p ih =>
    show a*c+x*ev (p.map fun c=>a*c) x=a*(c+x*ev p x)
    rw [ih,mul_add]
    generalize ev p x=u
    congr 1
    ac_rfl
def Pol (n : Nat) (f : F8→F8) : Prop:=∃ p : List F8,p.length=n∧∀ x,f x=ev p x
theorem Pol.add {n : Nat} {f g : F8→F8} (hf : Pol n f) (hg : Pol n g) : Pol n (fun x=>f x+g x):=by
  obtain ⟨p,hp,h1⟩:=hf
  obtain ⟨q,hq,h2⟩:=hg
  exact ⟨List.zipWith (· + ·) p q,by rw [List.length_zipWith];omega,fun x=>by simp only [h1,h2];exact (ev_add x p q (by omega)).symm⟩
theorem Pol.scale {n : Nat} {f : F8→F8} (a : F8) (hf : Pol n f) : Pol n (fun x=>a*f x):=by
  obtain ⟨p,hp,h1⟩:=hf
  exact ⟨p.map fun c=>a*c,by simpa using hp,fun x=>by simp only [h1];exact (ev_scale a x p).symm⟩
theorem msr {a k : Nat} {x l : Nat→F8} (hk : k=a+1) {S U : Nat→Nat→F8} (hS : ∀ i j,i < a→j < a→S i j=S j i) (hU : ∀ i j,i < a→j < a→U i j=U j i)
    (hx : ∀ i j,i < k→j < k→x i=x j→i=j) (hl : ∀ i j,i < k→j < k→l i=l j→i=j)
    (h : ∀ i,i < k→∀ c,c < a→sm (fun j=>(x i).pw j*S j c) a+l i*sm (fun j=>(x i).pw j*U j c) a=0) : ∀ i j,i < a→j < a→S i j=0∧U i j=0:=by
  -- the forms
  let fm (M : Nat→Nat→F8) (i j : Nat) : F8:=sm (fun c=>sm (fun r=>(x i).pw r*M r c) a*(x j).pw c) a
  have sym : ∀ M : Nat→Nat→F8,(∀ i j,i < a→j < a→M i j=M j i)→∀ i j,fm M i j=fm M j i:=by
    intro M hM i j
    show sm (fun c=>sm (fun r=>(x i).pw r*M r c) a*(x j).pw c) a=sm (fun c=>sm (fun r=>(x j).pw r*M r c) a*(x i).pw c) a
    have e1 : sm (fun c=>sm (fun r=>(x i).pw r*M r c) a*(x j).pw c) a=sm (fun c=>sm (fun r=>(x i).pw r*M r c*(x j).pw c) a) a:=sm_congr a fun c _=>(sm_mulr _ _ a).symm
    rw [e1,sm_swap]
    refine sm_congr a fun r hr=>?_
    rw [← sm_mulr]
    refine sm_congr a fun c hc=>?_
    rw [hM r c hr hc]
    ac_rfl
  have hPQ : ∀ i j,i < k→fm S i j+l i*fm U i j=0:=by
    intro i j hi
    show sm (fun c=>sm (fun r=>(x i).pw r*S r c) a*(x j).pw c) a+l i*sm (fun c=>sm (fun r=>(x i).pw r*U r c) a*(x j).pw c) a=0
    rw [← sm_mul,← sm_add]
    refine sm_all0 fun c hc=>?_
    have:=h i hi c hc
    rw [← mul_assoc,← add_mul,this,zero_mul]
  have hQ : ∀ i j,i < k→j < k→i ≠ j→fm U i j=0:=by
    intro i j hi hj hne
    have h1:=hPQ i j hi
    have h2:=hPQ j i hj
    rw [sym S hS j i,sym U hU j i] at h2
    have h3 : fm S i j=l i*fm U i j:=eq_of_add h1
    rw [h3,← add_mul] at h2
    exact (mul_eq h2).resolve_left (add_ne fun e=>hne (hl i j hi hj e))
  -- the vectors φ_i U vanish at a others,so they are zero
  have skip : ∀ i,i < k→∃ e : Nat→Nat,(∀ t,t < a→e t < k∧e t ≠ i)∧∀ s t,s < a→t < a→e s=e t→s=t:=by
    intro i hi
    refine ⟨fun t=>if t < i then t else t+1,fun t ht=>?_,fun s t hs ht he=>?_⟩
    · show (if t < i then t else t+1) < k∧(if t < i then t else t+1) ≠ i
      split <;> omega
    · simp only at he
      split at he <;> split at he <;> omega
  have hrow : ∀ i,i < k→∀ c,c < a→sm (fun r=>(x i).pw r*U r c) a=0:=by
    intro i hi
    obtain ⟨e,he1,he2⟩:=skip i hi
    refine vander (n:=a) (x:=fun t=>x (e t)) (fun s t hs ht hst=>he2 s t hs ht (hx _ _ (he1 s hs).1 (he1 t ht).1 hst)) (fun t ht=>?_)
    have:=hQ i (e t) hi (he1 t ht).1 (fun z=>(he1 t ht).2 z.symm)
    rw [← this]
    exact sm_congr a fun c _=>F8.mul_comm _ _
  have hU0 : ∀ i j,i < a→j < a→U i j=0:=by
    intro i j hi hj
    exact vander (n:=a) (x:=x) (c:=fun r=>U r j) (fun s t hs ht hst=>hx s t (by omega) (by omega) hst) (fun t ht=>hrow t (by omega) j hj) i hi
  have hS0 : ∀ i j,i < a→j < a→S i j=0:=by
    intro i j hi hj
    refine vander (n:=a) (x:=x) (c:=fun r=>S r j) (fun s t hs ht hst=>hx s t (by omega) (by omega) hst) (fun t ht=>?_) i hi
    have h1:=h t (by omega) j hj
    rw [hrow t (by omega) j hj,mul_zero,add_zero] at h1
    exact h1
  exact fun i j hi hj=>⟨hS0 i j hi hj,hU0 i j hi hj⟩
end Go.Proofs.Yteflgifmdojahaa.Fld
namespace Go.Proofs.Yteflgifmdojahaa.Lift
open Go.RowKit Go.ChangeShapes Go.WideShapes Go.Deep Go.Proofs.YteflgifmdojahaaW.PrintWords Go.Proofs.YteflgifmdojahaaW.PrintLast
set_option linter.unusedVariables false
set_option linter.unusedSimpArgs false
section
variable {H : Type} {enc : TypeId × Value→H} {P : Program} {w : World} {α β γ δ : Type}

def Opens {H : Type} (enc : TypeId × Value→H) (P : Program) (w : World) (t : TypeId) (d : Kd α) (wf : α→Prop) : Prop :=
  ∀ fuel cs x,DataW.trod enc P w 0 (fun _=>true) true fuel t cs=some x→∃ y,d.K w y cs∧wf y
theorem Opens.int {t : TypeId} {k : IntKind} (hu : P.underlying t=some (.int k)) : Opens enc P w t (Kd.int k) (fun x=>(Lit.int k x).wf=true):=by
  intro fuel cs x h
  obtain ⟨n,rfl,_,hw⟩:=DataW.trod_int hu h
  exact ⟨n,rfl,hw⟩
theorem Opens.string {t : TypeId} (hu : P.underlying t=some .string) : Opens enc P w t Kd.string (fun x=>x.size≤maxLen):=by
  intro fuel cs x h
  obtain ⟨n,rfl,_,hw⟩:=DataW.trod_string hu h
  exact ⟨n,rfl,hw⟩
theorem list_of {n : Nat} {p : Nat→α→Prop} (h : ∀ i,i < n→∃ x,p i x) : ∃ l : List α,l.length=n∧∀ (j : Nat) (x : α),l[j]? = some x→p j x:=by
  classical
  refine ⟨List.ofFn fun i : Fin n=>Classical.choose (h i.1 i.2),by simp,fun j x hx=>?_⟩
  obtain ⟨hj,e⟩:=List.getElem?_eq_some_iff.1 hx
  simp only [List.getElem_ofFn] at e
  subst e
  exact Classical.choose_spec (h j (by simpa using hj))
theorem Opens.slice {t e : TypeId} {d : Kd α} {wf : α→Prop} (hu : P.underlying t=some (.slice e)) (he : Opens enc P w e d wf) (hc : P.cellsOf e=d.sz) :
    Opens enc P w t (Kd.slice e d) (fun xs=>xs.length≤maxLen∧∀ x ∈ xs,wf x):=by
  intro fuel cs x h
  rcases open_slice hu h with ⟨rfl,_⟩ | ⟨a,len,cap,m,n,D,Pl,rfl,hb,hl,hm,hmm,_,hx⟩
  · exact ⟨[],⟨none,0,rfl,Nat.le_refl _,rfl,by simp,fun h0=>absurd h0 (by simp)⟩,by simp [maxLen],by simp⟩
  · simp only [if_true] at hmm
    subst hmm
    have each : ∀ i,i < len→∃ y,(∃ c,c.length=d.sz∧d.K w y c∧∀ j u,c[j]? = some u→w.cell? (a.add (i*d.sz+j))=some u)∧wf y:=by
      intro i hi
      obtain ⟨cs',hcs,hd⟩:=hx i (by omega)
      obtain ⟨y,hy,hw⟩:=he _ _ _ hd
      obtain ⟨_,hlen,hcell⟩:=World.cells?_some hcs
      refine ⟨y,⟨cs',by omega,hy,fun j u hj=>?_⟩,hw⟩
      have hjl:=(List.getElem?_eq_some_iff.1 hj).1
      rw [← Deep.add_add,← hc,hcell j (by omega)]
      exact hj
    obtain ⟨l,hll,hle⟩:=list_of each
    refine ⟨l,⟨some a,m,by rw [hll],by omega,rfl,?_,fun _=>⟨a,rfl,fun j p hj=>(hle j p hj).1⟩⟩,by omega,fun y hy=>?_⟩
    · unfold maxLen at hm
      omega
    · obtain ⟨j,hj,e⟩:=List.getElem_of_mem hy
      exact (hle j y (by rw [← e];exact List.getElem?_eq_getElem hj)).2
theorem Opens.id {t : TypeId} {d : Kd α} {wf : α→Prop} (h : Opens enc P w t d wf) {v : Value} {x : DataW H} {p : List MemPlace} (ht : DataW.Trod enc P w 0 (fun _=>true) true t v x p) : ∃ y,d.K w y v.cells.toList∧wf y:=by
  obtain ⟨fuel,hf⟩:=ht
  exact h _ _ _ hf
end
end Go.Proofs.Yteflgifmdojahaa.Lift
namespace Go.Proofs.Yteflgifmdojahaa.Lin
open Go.Proofs.Yteflgifmdojahaa.Gf Go.Proofs.Yteflgifmdojahaa.Kit Go.Proofs.Yteflgifmdojahaa.Fld
open Go.Proofs.Yteflgifmdojahaa.Fld.F8 hiding mul_comm mul_assoc mul_zero zero_mul mul_one one_mul
open Go.Proofs.Yteflgifmdojahaa.KitN hiding idM_length
set_option linter.unusedVariables false
set_option linter.unusedSimpArgs false
instance (x : Int) : Decidable (Byte x):=inferInstanceAs (Decidable (0≤x∧x < 256))
def mkF (x : Int) (h : Byte x) : F8:=⟨x,h⟩
def toF (x : Int) : F8:=if h : Byte x then mkF x h else 0
theorem toF_val {x : Int} (h : Byte x) : (toF x).1=x:=by unfold toF;rw [dif_pos h];rfl
theorem toF_gx {a b : Int} (ha : Byte a) (hb : Byte b) : toF (gx a b)=toF a+toF b:=F8.ext (by rw [toF_val (ha.gx hb),add_val,toF_val ha,toF_val hb])
theorem toF_mul {a b : Int} (ha : Byte a) (hb : Byte b) : toF (mul a b)=toF a*toF b:=F8.ext (by rw [toF_val (ha.mul b),mul_val,toF_val ha,toF_val hb])
theorem toF_inv {a : Int} (ha : Byte a) : toF (inv a)=(toF a).iv:=F8.ext (by rw [toF_val ha.inv];show _=inv (toF a).1;rw [toF_val ha])
theorem toF_pow {a : Int} (ha : Byte a) (n : Nat) : toF (pow a n)=(toF a).pw n:=F8.ext (by rw [toF_val (ha.pow n)];show _=pow (toF a).1 n;rw [toF_val ha])
theorem toF_zero : toF 0=0:=F8.ext (toF_val .zero)
theorem toF_one : toF 1=1:=F8.ext (toF_val .one)
theorem toF_inj {a b : Int} (ha : Byte a) (hb : Byte b) (h : toF a=toF b) : a=b:=by rw [← toF_val ha,← toF_val hb,h]
theorem toF_eq0 {a : Int} (ha : Byte a) : toF a=0↔a=0:=⟨fun h=>toF_inj ha .zero (h.trans toF_zero.symm),fun h=>h ▸ toF_zero⟩
def en (R : List (List Int)) (i j : Nat) : F8:=toF ((R.getD i []).getD j 0)
theorem getD_set {α : Type} (l : List α) (i j : Nat) (x d : α) : (l.set i x).getD j d=if j=i∧i < l.length then x else l.getD j d:=by
  rw [List.getD_eq_getElem?_getD,List.getD_eq_getElem?_getD,List.getElem?_set]
  by_cases h : i=j
  · subst h
    by_cases h2 : i < l.length
    · rw [if_pos rfl,if_pos h2,if_pos ⟨rfl,h2⟩];rfl
    · rw [if_pos rfl,if_neg h2,if_neg (fun z=>h2 z.2),List.getElem?_eq_none (by omega)]
  · rw [if_neg h,if_neg (fun z=>h z.1.symm)]
theorem getD_scale (a : Int) (r : List Int) (j : Nat) : (scale a r).getD j 0=mul a (r.getD j 0):=by
  unfold scale
  rw [List.getD_eq_getElem?_getD,List.getD_eq_getElem?_getD,List.getElem?_map]
  cases r[j]? with
  | none=>exact (mul_zero a).symm
  | some x=>rfl
theorem getD_addV {r s : List Int} (h : r.length=s.length) (j : Nat) : (addV r s).getD j 0=gx (r.getD j 0) (s.getD j 0):=by
  unfold addV
  rw [List.getD_eq_getElem?_getD,List.getD_eq_getElem?_getD,List.getD_eq_getElem?_getD,List.getElem?_zipWith]
  by_cases hj : j < r.length
  · rw [List.getElem?_eq_getElem hj,List.getElem?_eq_getElem (by omega : j < s.length)];rfl
  · rw [List.getElem?_eq_none (by omega),List.getElem?_eq_none (by omega)];rfl
def stepE (e : Nat→Nat→F8) (k a i r j : Nat) : F8:=if r=a then (e i k).iv*e i j else (e (if r=i then a else r) j+e (if r=i then a else r) k*((e i k).iv*e i j))
section
variable {m : Nat} {R : List (List Int)}
theorem row_ok (h : ∀ r ∈ R,okI m r) {i : Nat} (hi : i < R.length) : okI m (R.getD i []):=RowK.at_all (O:=rowI) h hi
theorem en_byte (h : ∀ r ∈ R,okI m r) {i : Nat} (hi : i < R.length) (j : Nat) : Byte ((R.getD i []).getD j 0):=bytes_getD (row_ok h hi).1 j
theorem clr_row (k a : Nat) (L : List (List Int)) (ha : a < L.length) : ∀ n,n≤L.length→∀ r,(rowI.clr k a L n).getD r []=if r < n∧r ≠ a∧(L.getD r []).getD k 0 ≠ 0 then addV (L.getD r []) (scale ((L.getD r []).getD k 0) (L.getD a [])) else L.getD r []
  | 0,_,r=>by rw [if_neg (by omega)];rfl
  | n+1,hn,r=>by
    have ih:=clr_row k a L ha n (by omega)
    have hn' : (rowI.clr k a L n).getD n []=L.getD n []:=by rw [ih n,if_neg (by omega)]
    have ha' : (rowI.clr k a L n).getD a []=L.getD a []:=by rw [ih a,if_neg (fun z=>z.2.1 rfl)]
    have e : rowI.clr k a L (n+1)=if n ≠ a∧(L.getD n []).getD k 0 ≠ 0 then (rowI.clr k a L n).set n (addV (L.getD n []) (scale ((L.getD n []).getD k 0) (L.getD a []))) else rowI.clr k a L n:=by
      show (if n ≠ a∧rowI.get ((rowI.clr k a L n).getD n []) k ≠ 0 then (rowI.clr k a L n).set n (rowI.ad ((rowI.clr k a L n).getD n []) (rowI.sc (rowI.get ((rowI.clr k a L n).getD n []) k) ((rowI.clr k a L n).getD a []))) else rowI.clr k a L n)=_
      rw [hn',ha']
      rfl
    rw [e]
    by_cases c : n ≠ a∧(L.getD n []).getD k 0 ≠ 0
    · rw [if_pos c,getD_set,RowK.clr_length,ih r]
      by_cases h : r=n
      · subst h
        rw [if_pos ⟨rfl,by omega⟩,if_pos ⟨by omega,c⟩]
      · rw [if_neg (fun z=>h z.1)]
        by_cases h2 : r < n∧r ≠ a∧(L.getD r []).getD k 0 ≠ 0
        · rw [if_pos h2,if_pos ⟨by omega,h2.2⟩]
        · rw [if_neg h2,if_neg (fun z=>h2 ⟨by omega,z.2⟩)]
    · rw [if_neg c,ih r]
      by_cases h2 : r < n∧r ≠ a∧(L.getD r []).getD k 0 ≠ 0
      · rw [if_pos h2,if_pos ⟨by omega,h2.2⟩]
      · rw [if_neg h2,if_neg]
        intro z
        by_cases h : r=n
        · subst h;exact c z.2
        · exact h2 ⟨by omega,z.2⟩
theorem step_en (h : ∀ r ∈ R,okI m r) {k a i : Nat} (ha : a < R.length) (hi : i < R.length) {r j : Nat} (hr : r < R.length) : en (rowI.clr k a (rowI.lift R k a i) R.length) r j=stepE (en R) k a i r j:=by
  have hL : ∀ r ∈ rowI.lift R k a i,okI m r:=RowK.lift_all (shutI m) h k ha hi
  have hl : (rowI.lift R k a i).length=R.length:=RowK.lift_length ..
  have row : ∀ r,(rowI.lift R k a i).getD r []=if r=a then scale (inv ((R.getD i []).getD k 0)) (R.getD i []) else if r=i then R.getD a [] else R.getD r []:=by
    intro r
    show ((R.set i (R.getD a [])).set a (scale (inv ((R.getD i []).getD k 0)) (R.getD i []))).getD r []=_
    rw [getD_set,List.length_set,getD_set]
    by_cases e : r=a
    · rw [if_pos ⟨e,ha⟩,if_pos e]
    · rw [if_neg (fun z=>e z.1),if_neg e]
      by_cases e2 : r=i
      · rw [if_pos ⟨e2,hi⟩,if_pos e2]
      · rw [if_neg (fun z=>e2 z.1),if_neg e2]
  have hy:=en_byte h hi k
  have top : ∀ j,toF (((rowI.lift R k a i).getD a []).getD j 0)=(en R i k).iv*en R i j:=by
    intro j
    rw [row a,if_pos rfl,getD_scale,toF_mul hy.inv (en_byte h hi j),toF_inv hy]
    rfl
  have rest : ∀ r j,r ≠ a→toF (((rowI.lift R k a i).getD r []).getD j 0)=en R (if r=i then a else r) j:=by
    intro r j hne
    rw [row r,if_neg hne]
    by_cases e2 : r=i
    · rw [if_pos e2,if_pos e2];rfl
    · rw [if_neg e2,if_neg e2];rfl
  have hla : a < (rowI.lift R k a i).length:=by rw [hl];exact ha
  unfold en stepE
  rw [clr_row k a _ hla R.length (by omega) r]
  by_cases e : r=a
  · subst e
    rw [if_neg (fun z=>z.2.1 rfl),if_pos rfl]
    exact top j
  · rw [if_neg e]
    have hbr:=en_byte hL (by rw [hl];exact hr : r < (rowI.lift R k a i).length)
    have hba:=en_byte hL hla
    by_cases c : ((rowI.lift R k a i).getD r []).getD k 0=0
    · rw [if_neg (fun z=>z.2.2 c),rest r j e]
      have hk:=rest r k e
      rw [c,toF_zero] at hk
      show _=en R (if r=i then a else r) j+en R (if r=i then a else r) k*((en R i k).iv*en R i j)
      rw [← hk,F8.zero_mul,add_zero]
    · rw [if_pos ⟨hr,e,c⟩,getD_addV (by rw [scale_length,(row_ok hL (by rw [hl];exact hr)).2,(row_ok hL hla).2]),getD_scale,toF_gx (hbr j) ((hbr k).mul _),toF_mul (hbr k) (hba j),rest r j e,rest r k e,top j]
      rfl
theorem red_cases (h : ∀ r ∈ R,okI m r) (k : Nat) :
    (rowI.red R (k+1)=rowI.red R k∧((rowI.red R k).2 < R.length→∀ i,(rowI.red R k).2≤i→i < R.length→en (rowI.red R k).1 i k=0)) ∨
    (∃ i,(rowI.red R k).2≤i∧i < R.length∧en (rowI.red R k).1 i k ≠ 0∧(rowI.red R (k+1)).2=(rowI.red R k).2+1∧∀ r j,r < R.length→en (rowI.red R (k+1)).1 r j=stepE (en (rowI.red R k).1) k (rowI.red R k).2 i r j):=by
  have hall:=RowK.red_all (shutI m) h k
  have hl:=RowK.red_length (O:=rowI) R k
  have hu : rowI.red R (k+1)=if (rowI.red R k).2 < R.length then rowI.stp k (rowI.red R k) else rowI.red R k:=rfl
  rw [hu]
  generalize rowI.red R k=s at hall hl
  obtain ⟨R',a⟩:=s
  have hl : R'.length=R.length:=hl
  have hall : ∀ r ∈ R',okI m r:=hall
  by_cases c : a < R.length
  · rw [if_pos c]
    have c' : a < R'.length:=by omega
    rcases RowK.piv_cases rowI R' k a with ⟨i,e,h1,h2,h3,_⟩ | ⟨e,h1⟩
    · right
      have hs : rowI.stp k (R',a)=(rowI.clr k a (rowI.lift R' k a i) R'.length,a+1):=by
        unfold RowK.stp
        simp only [e]
      rw [hs]
      refine ⟨i,h1,by omega,?_,rfl,fun r j hr=>?_⟩
      · intro z
        exact h3 ((toF_eq0 (en_byte hall h2 k)).1 z)
      · exact step_en hall c' h2 (by omega)
    · left
      have hs : rowI.stp k (R',a)=(R',a):=by
        unfold RowK.stp
        simp only [e]
      rw [hs]
      refine ⟨rfl,fun _ i hi1 hi2=>?_⟩
      show toF _=0
      have:=h1 i hi1 (by omega)
      have e2 : (R'.getD i []).getD k 0=0:=this
      rw [e2,toF_zero]
  · left
    rw [if_neg c]
    exact ⟨rfl,fun z=>absurd z c⟩
structure Shp (len k a : Nat) (p : Nat→Nat) (e : Nat→Nat→F8) : Prop where
  le : a≤len
  lt : ∀ t,t < a→p t < k
  mono : ∀ s t,s < t→t < a→p s < p t
  one : ∀ i t,i < len→t < a→e i (p t)=if i=t then 1 else 0
  zero : ∀ i j,a≤i→i < len→j < k→e i j=0
def Ker (len n : Nat) (e : Nat→Nat→F8) (z : Nat→F8) : Prop:=∀ r,r < len→sm (fun j=>e r j*z j) n=0
theorem shp_step {len k a i : Nat} {p : Nat→Nat} {e e' : Nat→Nat→F8} (h : Shp len k a p e) (h1 : a≤i) (h2 : i < len) (h3 : e i k ≠ 0) (he : ∀ r j,r < len→e' r j=stepE e k a i r j) : Shp len (k+1) (a+1) (fun t=>if t=a then k else p t) e':=by
  have hiv:=F8.mul_iv h3
  have top : ∀ j,j < k→stepE e k a i a j=0:=fun j hj=>by unfold stepE;rw [if_pos rfl,h.zero i j h1 h2 hj,F8.mul_zero]
  have topk : stepE e k a i a k=1:=by unfold stepE;rw [if_pos rfl,F8.mul_comm];exact hiv
  have colk : ∀ r,r ≠ a→stepE e k a i r k=0:=fun r hr=>by
    unfold stepE
    rw [if_neg hr,F8.mul_comm (e i k).iv,hiv,F8.mul_one,add_self]
  have keep : ∀ r j,r ≠ a→e i j=0→stepE e k a i r j=e (if r=i then a else r) j:=fun r j hr hz=>by
    unfold stepE
    rw [if_neg hr,hz,F8.mul_zero,F8.mul_zero,add_zero]
  refine ⟨by have:=h.le;omega,fun t ht=>?_,fun s t hst ht=>?_,fun r t hr ht=>?_,fun r j hr1 hr2 hj=>?_⟩
  · split
    · omega
    · have:=h.lt t (by omega);omega
  · by_cases e1 : t=a
    · subst e1
      rw [if_pos rfl,if_neg (by omega)]
      exact h.lt s (by omega)
    · rw [if_neg e1,if_neg (by omega)]
      exact h.mono s t hst (by omega)
  · rw [he r _ hr]
    by_cases e1 : t=a
    · subst e1
      rw [if_pos rfl]
      by_cases e2 : r=t
      · subst e2;rw [if_pos rfl];exact topk
      · rw [if_neg e2];exact colk r e2
    · rw [if_neg e1]
      have ht' : t < a:=by omega
      by_cases e2 : r=a
      · subst e2
        rw [if_neg (by omega)]
        exact top _ (h.lt t ht')
      · rw [keep r _ e2 (by rw [h.one i t h2 ht',if_neg (by omega)])]
        by_cases e3 : r=i
        · rw [if_pos e3,h.one a t (by omega) ht',if_neg (by omega),if_neg (by omega)]
        · rw [if_neg e3,h.one r t hr ht']
  · rw [he r j hr2]
    have hra : r ≠ a:=by omega
    by_cases e1 : j=k
    · subst e1;exact colk r hra
    · have hj' : j < k:=by omega
      rw [keep r j hra (h.zero i j h1 h2 hj')]
      by_cases e3 : r=i
      · rw [if_pos e3];exact h.zero a j (Nat.le_refl _) (by omega) hj'
      · rw [if_neg e3];exact h.zero r j (by omega) hr2 hj'
theorem ker_step {len n k a i : Nat} {e e' : Nat→Nat→F8} (h1 : a≤i) (h2 : i < len) (h3 : e i k ≠ 0) (he : ∀ r j,r < len→e' r j=stepE e k a i r j) (z : Nat→F8) : Ker len n e' z↔Ker len n e z:=by
  have hd : ∀ r,r < len→sm (fun j=>e' r j*z j) n=if r=a then (e i k).iv*sm (fun j=>e i j*z j) n else sm (fun j=>e (if r=i then a else r) j*z j) n+e (if r=i then a else r) k*((e i k).iv*sm (fun j=>e i j*z j) n):=by
    intro r hr
    by_cases c : r=a
    · rw [if_pos c,← sm_mul]
      refine sm_congr n fun j _=>?_
      rw [he r j hr]
      unfold stepE
      rw [if_pos c,F8.mul_assoc]
    · rw [if_neg c,← sm_mul,← sm_mul,← sm_add]
      refine sm_congr n fun j _=>?_
      rw [he r j hr]
      unfold stepE
      rw [if_neg c,F8.add_mul,F8.mul_assoc,F8.mul_assoc]
  constructor
  · intro h
    have hi : sm (fun j=>e i j*z j) n=0:=by
      have:=h a (by omega)
      rw [hd a (by omega),if_pos rfl] at this
      refine (mul_eq this).resolve_left fun q=>?_
      have:=F8.mul_iv h3
      rw [q,F8.mul_zero] at this
      exact one_ne this.symm
    have hr : ∀ r,r < len→r ≠ a→sm (fun j=>e (if r=i then a else r) j*z j) n=0:=by
      intro r hr hne
      have:=h r hr
      rw [hd r hr,if_neg hne,hi,F8.mul_zero,F8.mul_zero,add_zero] at this
      exact this
    intro r hr'
    by_cases c : r=i
    · subst c;exact hi
    · by_cases c2 : r=a
      · subst c2
        have:=hr i h2 (fun q=>c q.symm)
        rw [if_pos rfl] at this
        exact this
      · have:=hr r hr' c2
        rw [if_neg c] at this
        exact this
  · intro h r hr
    rw [hd r hr,h i h2,F8.mul_zero,F8.mul_zero,add_zero]
    by_cases c : r=a
    · rw [if_pos c]
    · rw [if_neg c]
      by_cases c2 : r=i
      · rw [if_pos c2];exact h a (by omega)
      · rw [if_neg c2];exact h r hr
theorem red_lin (h : ∀ r ∈ R,okI m r) : ∀ k,(∃ p,Shp R.length k (rowI.red R k).2 p (en (rowI.red R k).1))∧∀ n z,Ker R.length n (en (rowI.red R k).1) z↔Ker R.length n (en R) z
  | 0=>⟨⟨fun _=>0,Nat.zero_le _,fun t ht=>absurd ht (Nat.not_lt_zero _),fun _ t _ ht=>absurd ht (Nat.not_lt_zero _),fun _ t _ ht=>absurd ht (Nat.not_lt_zero _),fun _ j _ _ hj=>absurd hj (Nat.not_lt_zero _)⟩,fun _ _=>Iff.rfl⟩
  | k+1=>by
    obtain ⟨⟨p,hs⟩,hk⟩:=red_lin h k
    rcases red_cases h k with ⟨e,hz⟩ | ⟨i,h1,h2,h3,h4,h5⟩
    · rw [e]
      refine ⟨⟨p,hs.le,fun t ht=>by have:=hs.lt t ht;omega,hs.mono,hs.one,fun i j hi1 hi2 hj=>?_⟩,hk⟩
      by_cases c : j=k
      · subst c;exact hz (by omega) i hi1 hi2
      · exact hs.zero i j hi1 hi2 (by omega)
    · rw [h4]
      exact ⟨⟨_,shp_step hs h1 h2 h3 h5⟩,fun n z=>(ker_step h1 h2 h3 h5 z).trans (hk n z)⟩
end
section
variable {len n a : Nat} {p : Nat→Nat} {e : Nat→Nat→F8}
def dl (i j : Nat) : F8:=if i=j then 1 else 0
theorem sm_dl (f : Nat→F8) {j n : Nat} (h : j < n) : sm (fun x=>f x*dl x j) n=f j:=by
  rw [sm_single h (fun x _ hx=>by unfold dl;rw [if_neg hx,F8.mul_zero])]
  unfold dl
  rw [if_pos rfl,F8.mul_one]
def sol (a : Nat) (p : Nat→Nat) (e : Nat→Nat→F8) (j x : Nat) : F8:=dl x j+sm (fun u=>e u j*dl x (p u)) a
theorem sm_sol (f : Nat→F8) (hp : ∀ t,t < a→p t < n) {j : Nat} (hj : j < n) : sm (fun x=>f x*sol a p e j x) n=f j+sm (fun u=>f (p u)*e u j) a:=by
  have e1 : sm (fun x=>f x*sol a p e j x) n=sm (fun x=>f x*dl x j) n+sm (fun x=>sm (fun u=>e u j*(f x*dl x (p u))) a) n:=by
    rw [← sm_add]
    refine sm_congr n fun x _=>?_
    show f x*(dl x j+sm (fun u=>e u j*dl x (p u)) a)=_
    rw [F8.mul_add,← sm_mul]
    congr 1
    exact sm_congr a fun u _=>by ac_rfl
  rw [e1,sm_dl f hj,sm_swap]
  congr 1
  refine sm_congr a fun u hu=>?_
  rw [sm_mul,sm_dl f (hp u hu),F8.mul_comm]
theorem ker_sol (h : Shp len n a p e) {j : Nat} (hj : j < n) : Ker len n e (sol a p e j):=by
  intro r hr
  rw [sm_sol (e r) h.lt hj]
  by_cases c : r < a
  · have e1 : sm (fun u=>e r (p u)*e u j) a=e r j:=by
      rw [sm_single c (fun u hu hne=>by rw [h.one r u hr hu,if_neg (fun z=>hne z.symm),F8.zero_mul]),h.one r r hr c,if_pos rfl,F8.one_mul]
    rw [e1,add_self]
  · rw [h.zero r j (by omega) hr hj,zero_add]
    exact sm_all0 fun u hu=>by rw [h.one r u hr hu,if_neg (by omega),F8.zero_mul]
theorem pivots_ge (h : Shp len n a p e) : ∀ t,t < a→t≤p t
  | 0,_=>Nat.zero_le _
  | t+1,ht=>by
    have h1:=pivots_ge h t (by omega)
    have h2:=h.mono t (t+1) (by omega) ht
    omega
theorem rank_le (h : Shp len n a p e) : a≤n:=by
  by_cases c : a=0
  · omega
  · have h1:=pivots_ge h (a - 1) (by omega)
    have h2:=h.lt (a - 1) (by omega)
    omega
theorem free_col (h : Shp len n a p e) (c : a < n) : ∃ j,j < n∧∀ t,t < a→p t ≠ j:=by
  have key : ∀ t,t≤a→(∃ j,j < n∧∀ t,t < a→p t ≠ j)∨∀ s,s < t→p s=s:=by
    intro t
    induction t with
    | zero=>exact fun _=>.inr fun s hs=>absurd hs (Nat.not_lt_zero _)
    | succ t ih =>
      intro ht
      rcases ih (by omega) with h1 | h1
      · exact .inl h1
      · by_cases e1 : p t=t
        · right
          intro s hs
          by_cases e2 : s=t
          · subst e2;exact e1
          · exact h1 s (by omega)
        · left
          have hge:=pivots_ge h t (by omega)
          refine ⟨t,by omega,fun s hs=>?_⟩
          by_cases e2 : s < t
          · rw [h1 s e2];omega
          · by_cases e3 : s=t
            · subst e3;exact e1
            · have:=h.mono t s (by omega) hs
              omega
  rcases key a (Nat.le_refl _) with h1 | h1
  · exact h1
  · exact ⟨a,c,fun t ht=>by rw [h1 t ht];omega⟩
theorem full_id (h : Shp len n a p e) (c : a=n) : ∀ t,t < n→p t=t:=by
  intro t ht
  have key : ∀ d,d < n→p (n - 1 - d)≤n - 1 - d:=by
    intro d
    induction d with
    | zero=>intro hd;have:=h.lt (n - 1 - 0) (by omega);omega
    | succ d ih =>
      intro hd
      have h1:=ih (by omega)
      have h2:=h.mono (n - 1 - (d+1)) (n - 1 - d) (by omega) (by omega)
      omega
  have h1:=pivots_ge h t (by omega)
  have h2:=key (n - 1 - t) (by omega)
  rw [show n - 1 - (n - 1 - t)=t by omega] at h2
  omega
end
section
variable {n : Nat} {R : List (List Int)}
theorem rank_full (h : ∀ r ∈ R,okI n r) (hk : ∀ z,Ker R.length n (en R) z→∀ j,j < n→z j=0) : (rowI.red R n).2=n:=by
  obtain ⟨⟨p,hs⟩,hker⟩:=red_lin h n
  have hle:=rank_le hs
  by_cases c : (rowI.red R n).2 < n
  · obtain ⟨j,hj,hp⟩:=free_col hs c
    have h1:=hk _ ((hker n _).1 (ker_sol hs hj)) j hj
    have h2 : sol (rowI.red R n).2 p (en (rowI.red R n).1) j j=1:=by
      unfold sol
      rw [sm_all0 (fun u hu=>by unfold dl;rw [if_neg (fun z=>hp u hu z.symm),F8.mul_zero]),add_zero]
      unfold dl
      rw [if_pos rfl]
    rw [h2] at h1
    exact absurd h1 one_ne
  · omega
theorem rank_len (R : List (List Int)) (n : Nat) : (rowI.red R n).2≤R.length:=(RowK.red_rank (O:=rowI) R n).2
end
theorem tab_okI {n m : Nat} {f : Nat→Nat→Int} (h : ∀ i,i < n→∀ j,j < m→Byte (f i j)) : ∀ r ∈ tab n m f,okI m r:=by
  intro r hr
  refine ⟨tab_bytes h r hr,?_⟩
  simp only [tab,List.mem_map] at hr
  obtain ⟨i,_,rfl⟩:=hr
  simp
theorem getD_app (a b : List Int) (j : Nat) : (a ++ b).getD j 0=if j < a.length then a.getD j 0 else b.getD (j - a.length) 0:=by
  by_cases c : j < a.length
  · rw [if_pos c,List.getD_eq_getElem?_getD,List.getElem?_append_left c,← List.getD_eq_getElem?_getD]
  · rw [if_neg c,List.getD_eq_getElem?_getD,List.getElem?_append_right (by omega),← List.getD_eq_getElem?_getD]
theorem en_cat {l k : List (List Int)} {n i j : Nat} (hl : ∀ r ∈ l,okI n r) (hlen : l.length=k.length) (hi : i < l.length) : en ((l.zip k).map fun r=>r.1 ++ r.2) i j=if j < n then en l i j else en k i (j - n):=by
  have hk : i < k.length:=by omega
  have e : ((l.zip k).map fun r=>r.1 ++ r.2).getD i []=l.getD i [] ++ k.getD i []:=by
    rw [List.getD_eq_getElem?_getD,List.getElem?_map,List.getElem?_eq_getElem (by rw [List.length_zip];omega : i < (l.zip k).length)]
    rw [List.getD_eq_getElem?_getD,List.getD_eq_getElem?_getD,List.getElem?_eq_getElem hi,List.getElem?_eq_getElem hk]
    simp
  unfold en
  rw [e,getD_app,(row_ok hl hi).2]
  by_cases c : j < n
  · rw [if_pos c,if_pos c]
  · rw [if_neg c,if_neg c]
theorem en_id {n i j : Nat} (hi : i < n) (hj : j < n) : en (idM n) i j=dl i j:=by
  unfold en
  rw [idM_getD hi,getD_set,List.length_replicate]
  unfold dl
  by_cases c : j=i
  · rw [if_pos ⟨c,hi⟩,if_pos c.symm,toF_one]
  · rw [if_neg (fun z=>c z.1),if_neg (fun z=>c z.symm)]
    have e : (List.replicate n (0 : Int)).getD j 0=0:=by
      rw [List.getD_eq_getElem?_getD,List.getElem?_replicate]
      split <;> rfl
    rw [e,toF_zero]
theorem dl_comm (i j : Nat) : dl i j=dl j i:=by
  unfold dl
  by_cases c : i=j
  · rw [if_pos c,if_pos c.symm]
  · rw [if_neg c,if_neg (fun z=>c z.symm)]
theorem sm_dl2 (f : Nat→F8) {j n : Nat} (h : j < n) : sm (fun x=>dl j x*f x) n=f j:=by
  rw [← sm_dl f h]
  exact sm_congr n fun x _=>by rw [dl_comm,F8.mul_comm]
section
variable {l : List (List Int)}
theorem inv_rank (h : ∀ r ∈ l,okI l.length r) : (redP l (idM l.length) l.length).2=(rowI.red l l.length).2:=by
  have z:=RowK.red_map (shutP l.length l.length) (hom_fst l.length l.length) (zip_ok h (idM_ok l.length)) l.length (Nat.le_refl _)
  rw [zip_fst (by rw [KitN.idM_length])] at z
  rw [z]
  rfl
theorem inv_iff (h : ∀ r ∈ l,okI l.length r) : (invM l).2=true↔(rowI.red l l.length).2=l.length:=by
  unfold invM
  rw [inv_rank h]
  have:=rank_len l l.length
  by_cases c : (rowI.red l l.length).2 < l.length
  · rw [if_pos c]
    exact ⟨fun z=>(by cases z),fun z=>(by omega)⟩
  · rw [if_neg c]
    exact ⟨fun _=>by omega,fun _=>rfl⟩
theorem inv_ker (h : ∀ r ∈ l,okI l.length r) (hr : (rowI.red l l.length).2=l.length) (z w : Nat→F8) :
    (∀ r,r < l.length→sm (fun j=>en l r j*z j) l.length+w r=0)↔(∀ r,r < l.length→z r+sm (fun j=>en (invM l).1 r j*w j) l.length=0):=by
  obtain ⟨n,hn⟩ : ∃ n,n=l.length:=⟨_,rfl⟩
  have hcat:=catM_ok h
  have hcl : (catM l).length=n:=by rw [catM_length,hn]
  obtain ⟨⟨p,hs⟩,hker⟩:=red_lin hcat n
  have hX : (invM l).1=(redP l (idM l.length) l.length).1.map Prod.snd:=by
    unfold invM
    rw [inv_rank h,hr,if_neg (Nat.lt_irrefl _)]
  have hred:=catM_red h
  have hrk:=inv_rank h
  have hpl:=redP_length l (idM l.length) l.length (by rw [KitN.idM_length])
  have hpo:=redP_ok (n:=l.length) h (idM_ok l.length)
  rw [← hn] at hred hrk hpl hpo hr hX hcat h ⊢
  rw [hr] at hrk
  rw [hrk] at hred
  rw [hcl] at hker
  rw [hcl,hred] at hs
  simp only at hs
  rw [hred] at hker
  simp only at hker
  generalize hL : (redP l (idM n) n).1=L at hs hker hX hpl hpo
  have hid:=full_id (n:=n) hs rfl
  -- the two sides of L
  have hz : L.map (fun r=>r.1 ++ r.2)=((L.map Prod.fst).zip (L.map Prod.snd)).map fun r=>r.1 ++ r.2:=by
    rw [List.zip_map',List.map_map]
    rfl
  have hfl : (L.map Prod.fst).length=(L.map Prod.snd).length:=by simp
  have hf : ∀ r ∈ L.map Prod.fst,okI n r:=fst_all hpo
  have hC : ∀ r,r < n→∀ j,en (L.map fun r=>r.1 ++ r.2) r j=if j < n then en (L.map Prod.fst) r j else en (invM l).1 r (j - n):=fun r hr j=>by
    rw [hz,hX]
    exact en_cat hf hfl (by rw [List.length_map];omega)
  have hA : ∀ r,r < n→∀ j,en (catM l) r j=if j < n then en l r j else en (idM n) r (j - n):=fun r hr j=>by
    rw [catM_zip,← hn]
    exact en_cat h (by rw [KitN.idM_length];exact hn.symm) (by omega)
  have hone : ∀ r t,r < n→t < n→en (L.map fun r=>r.1 ++ r.2) r t=dl r t:=fun r t hr ht=>by
    have:=hs.one r t (by omega) ht
    rw [hid t ht] at this
    exact this
  have key:=hker (n+n) (fun j=>if j < n then z j else w (j - n))
  have e1 : ∀ f : Nat→F8,sm (fun j=>f j*(if j < n then z j else w (j - n))) (n+n)=sm (fun j=>f j*z j) n+sm (fun j=>f (n+j)*w j) n:=by
    intro f
    rw [sm_split]
    congr 1
    · exact sm_congr n fun j hj=>by rw [if_pos hj]
    · exact sm_congr n fun j hj=>by rw [if_neg (by omega),show n+j - n=j by omega]
  constructor
  · intro hl r hr
    have h1:=key.2 (fun r hr=>by
      rw [e1]
      have e2 : sm (fun j=>en (catM l) r j*z j) n=sm (fun j=>en l r j*z j) n:=sm_congr n fun j hj=>by rw [hA r hr j,if_pos hj]
      have e3 : sm (fun j=>en (catM l) r (n+j)*w j) n=w r:=by
        rw [← sm_dl2 w hr]
        exact sm_congr n fun j hj=>by rw [hA r hr (n+j),if_neg (by omega),show n+j - n=j by omega,en_id hr hj]
      rw [e2,e3]
      exact hl r hr) r hr
    rw [e1] at h1
    have e2 : sm (fun j=>en (L.map fun r=>r.1 ++ r.2) r j*z j) n=z r:=by
      rw [← sm_dl2 z hr]
      exact sm_congr n fun j hj=>by rw [hone r j hr hj]
    have e3 : sm (fun j=>en (L.map fun r=>r.1 ++ r.2) r (n+j)*w j) n=sm (fun j=>en (invM l).1 r j*w j) n:=sm_congr n fun j hj=>by rw [hC r hr (n+j),if_neg (by omega),show n+j - n=j by omega]
    rw [e2,e3] at h1
    exact h1
  · intro hl r hr
    have h1:=key.1 (fun r hr=>by
      rw [e1]
      have e2 : sm (fun j=>en (L.map fun r=>r.1 ++ r.2) r j*z j) n=z r:=by
        rw [← sm_dl2 z hr]
        exact sm_congr n fun j hj=>by rw [hone r j hr hj]
      have e3 : sm (fun j=>en (L.map fun r=>r.1 ++ r.2) r (n+j)*w j) n=sm (fun j=>en (invM l).1 r j*w j) n:=sm_congr n fun j hj=>by rw [hC r hr (n+j),if_neg (by omega),show n+j - n=j by omega]
      rw [e2,e3]
      exact hl r hr) r hr
    rw [e1] at h1
    have e2 : sm (fun j=>en (catM l) r j*z j) n=sm (fun j=>en l r j*z j) n:=sm_congr n fun j hj=>by rw [hA r hr j,if_pos hj]
    have e3 : sm (fun j=>en (catM l) r (n+j)*w j) n=w r:=by
      rw [← sm_dl2 w hr]
      exact sm_congr n fun j hj=>by rw [hA r hr (n+j),if_neg (by omega),show n+j - n=j by omega,en_id hr hj]
    rw [e2,e3] at h1
    exact h1
theorem invM_mul (h : ∀ r ∈ l,okI l.length r) (hr : (rowI.red l l.length).2=l.length) {i c : Nat} (hi : i < l.length) (hc : c < l.length) : sm (fun j=>en (invM l).1 i j*en l j c) l.length=dl i c:=by
  have:=(inv_ker h hr (fun j=>dl j c) (fun j=>en l j c)).1 (fun r _=>by
    rw [sm_dl _ hc,add_self]) i hi
  exact (eq_of_add this).symm
end
end Go.Proofs.Yteflgifmdojahaa.Lin
namespace Go.Proofs.Yteflgifmdojahaa.Kit
open Go.RowKit Go.Proofs.YteflgifmdojahaaW.PrintWords Go.Proofs.YteflgifmdojahaaW.PrintLast Go.Proofs.Yteflgifmdojahaa.Gf Go.Proofs.Yteflgifmdojahaa.KitW
set_option linter.unusedVariables false
set_option linter.unusedSimpArgs false
abbrev txt (l : List ByteArray) (i : Nat) : ByteArray:=l.getD i ByteArray.empty
theorem txt_get {l : List ByteArray} {i : Nat} (h : i < l.length) : txt l i=l[i]:=by simp [txt,List.getD,h]
theorem txt_mem {l : List ByteArray} {i : Nat} (h : i < l.length) : txt l i ∈ l:=by rw [txt_get h];exact List.getElem_mem h
def textsLe (n : Nat) (l : List ByteArray) : Prop:=l.length≤n∧∀ s ∈ l,s.size≤n
theorem textsLe.txt {n : Nat} {l : List ByteArray} (h : textsLe n l) (i : Nat) : (txt l i).size≤n:=by
  by_cases hi : i < l.length
  · exact h.2 _ (txt_mem hi)
  · simp [Kit.txt,List.getD,hi]
theorem textsLe.append {n m : Nat} {a b : List ByteArray} (ha : textsLe n a) (hb : textsLe m b) : textsLe (n+m) (a ++ b):=by
  refine ⟨by have:=ha.1;have:=hb.1;simp;omega,fun s hs=>?_⟩
  rcases List.mem_append.1 hs with h | h
  · have:=ha.2 s h;omega
  · have:=hb.2 s h;omega
def goodStripe (D P : List ByteArray) : Bool:=decide ((1≤(D.length : Int)∧(D.length : Int)≤16)∧1≤(P.length : Int)∧(P.length : Int)≤4) && textsOk (D ++ P)
theorem idM_length (n : Nat) : (idM n).length=n:=by simp [idM]
def alike (D P E Q : List ByteArray) : Bool:=goodStripe D P && (goodStripe E Q && (decide (P.length=Q.length) && decide ((txt D 0).size=(txt E 0).size)))
end Go.Proofs.Yteflgifmdojahaa.Kit
-- SQUEEZED
