/- How an argument that came in reads as a value of a printed kind: whole numbers, strings, slices, structs of up to three fields; no program stands here. -/
import Derived.Test.YtajikfnpcobnpaaVDecodeMsrWMore
import Derived.Deep.Strs
namespace Go.Proofs.Ytajikfnpcobnpaa.Lift
open Go.RowKit Go.ChangeShapes Go.WideShapes Go.Deep Go.Proofs.YtajikfnpcobnpaaW.PrintWords Go.Proofs.YtajikfnpcobnpaaW.PrintLast
set_option linter.unusedVariables false
set_option linter.unusedSimpArgs false
section
variable {H : Type} {enc : TypeId × Value→H} {P : Program} {w : World} {α β γ δ : Type}

/-- Whatever is read at type t is a value of the kind, and is well. -/
def Opens {H : Type} (enc : TypeId × Value→H) (P : Program) (w : World) (t : TypeId) (d : Kd α) (wf : α→Prop) : Prop :=
  ∀ fuel cs x,DataW.trod enc P w 0 (fun _=>true) true fuel t cs=some x→∃ y,d.K w y cs∧wf y
theorem Opens.int {t : TypeId} {k : IntKind} (hu : P.underlying t=some (.int k)) : Opens enc P w t (Kd.int k) (fun x=>(Lit.int k x).wf=true):=by
  intro fuel cs x h
  obtain ⟨n,rfl,_,hw⟩:=DataW.trod_int hu h
  exact ⟨n,rfl,hw⟩
theorem Opens.string {t : TypeId} (hu : P.underlying t=some .string) : Opens enc P w t Kd.string (fun x=>x.size≤maxLen):=by
  intro fuel cs x h
  obtain ⟨n,rfl,_,hw⟩:=DataW.trod_string hu h
  exact ⟨n,rfl,hw⟩
theorem list_of {n : Nat} {p : Nat→α→Prop} (h : ∀ i,i < n→∃ x,p i x) : ∃ l : List α,l.length=n∧∀ (j : Nat) (x : α),l[j]? = some x→p j x:=by
  classical
  refine ⟨List.ofFn fun i : Fin n=>Classical.choose (h i.1 i.2),by simp,fun j x hx=>?_⟩
  obtain ⟨hj,e⟩:=List.getElem?_eq_some_iff.1 hx
  simp only [List.getElem_ofFn] at e
  subst e
  exact Classical.choose_spec (h j (by simpa using hj))
theorem Opens.slice {t e : TypeId} {d : Kd α} {wf : α→Prop} (hu : P.underlying t=some (.slice e)) (he : Opens enc P w e d wf) (hc : P.cellsOf e=d.sz) :
    Opens enc P w t (Kd.slice e d) (fun xs=>xs.length≤maxLen∧∀ x ∈ xs,wf x):=by
  intro fuel cs x h
  rcases open_slice hu h with ⟨rfl,_⟩ | ⟨a,len,cap,m,n,D,Pl,rfl,hb,hl,hm,hmm,_,hx⟩
  · exact ⟨[],⟨none,0,rfl,Nat.le_refl _,rfl,by simp,fun h0=>absurd h0 (by simp)⟩,by simp [maxLen],by simp⟩
  · simp only [if_true] at hmm
    subst hmm
    have each : ∀ i,i < len→∃ y,(∃ c,c.length=d.sz∧d.K w y c∧∀ j u,c[j]? = some u→w.cell? (a.add (i*d.sz+j))=some u)∧wf y:=by
      intro i hi
      obtain ⟨cs',hcs,hd⟩:=hx i (by omega)
      obtain ⟨y,hy,hw⟩:=he _ _ _ hd
      obtain ⟨_,hlen,hcell⟩:=World.cells?_some hcs
      refine ⟨y,⟨cs',by omega,hy,fun j u hj=>?_⟩,hw⟩
      have hjl:=(List.getElem?_eq_some_iff.1 hj).1
      rw [← Deep.add_add,← hc,hcell j (by omega)]
      exact hj
    obtain ⟨l,hll,hle⟩:=list_of each
    refine ⟨l,⟨some a,m,by rw [hll],by omega,rfl,?_,fun _=>⟨a,rfl,fun j p hj=>(hle j p hj).1⟩⟩,by omega,fun y hy=>?_⟩
    · unfold maxLen at hm
      omega
    · obtain ⟨j,hj,e⟩:=List.getElem_of_mem hy
      exact (hle j y (by rw [← e];exact List.getElem?_eq_getElem hj)).2
theorem Opens.struct2 {t : TypeId} {f0 f1 : Field} {d0 : Kd α} {d1 : Kd γ} {w0 : α→Prop} {w1 : γ→Prop} (hs : P.underlying t=some (.struct #[f0,f1])) (h0 : Opens enc P w f0.type d0 w0) (h1 : Opens enc P w f1.type d1 w1)
    (o0 : f0.offset=0) (o1 : f1.offset=P.cellsOf f0.type) (c1 : P.cellsOf t=P.cellsOf f0.type+P.cellsOf f1.type) (f : β→α × γ) (g : α × γ→β) (hfg : ∀ x,f (g x)=x) :
    Opens enc P w t (Kd.iso (Kd.pair d0 d1) f) (fun x=>w0 (f x).1∧w1 (f x).2):=by
  intro fuel cs x h
  obtain ⟨y0,y1,n,_,hl,e0,e1⟩:=trod_struct2 hs h
  rw [o0,List.drop_zero] at e0
  rw [o1,List.take_of_length_le (by rw [List.length_drop];omega)] at e1
  obtain ⟨x0,k0,m0⟩:=h0 _ _ _ e0
  obtain ⟨x1,k1,m1⟩:=h1 _ _ _ e1
  refine ⟨g (x0,x1),?_,?_⟩
  · show (Kd.pair d0 d1).K w (f (g (x0,x1))) cs
    rw [hfg]
    exact ⟨_,_,(List.take_append_drop _ _).symm,k0,k1⟩
  · show w0 (f (g (x0,x1))).1∧w1 (f (g (x0,x1))).2
    rw [hfg];exact ⟨m0,m1⟩
theorem Opens.id {t : TypeId} {d : Kd α} {wf : α→Prop} (h : Opens enc P w t d wf) {v : Value} {x : DataW H} {p : List MemPlace} (ht : DataW.Trod enc P w 0 (fun _=>true) true t v x p) : ∃ y,d.K w y v.cells.toList∧wf y:=by
  obtain ⟨fuel,hf⟩:=ht
  exact h _ _ _ hf
theorem agg_of {cs : Array Value} {l : List Value} (h : (Value.agg cs).cells.toList=l) : Value.agg cs = .agg l.toArray:=by
  subst h
  simp [Value.cells]
end
end Go.Proofs.Ytajikfnpcobnpaa.Lift
-- SQUEEZED
