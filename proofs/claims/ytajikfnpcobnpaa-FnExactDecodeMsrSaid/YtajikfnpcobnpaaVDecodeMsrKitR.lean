/- Words for drawn regions that are walked by hand: what has come up as a list of numbers, what comes next told ahead; no program stands here. -/
import Derived.Test.YtajikfnpcobnpaaVDecodeMsrWMore
import Derived.Test.YtajikfnpcobnpaaVDecodeMsrWTab
namespace Go.Proofs.Ytajikfnpcobnpaa.KitR
open Go.RowKit Go.Proofs.YtajikfnpcobnpaaW.PrintWords Go.Proofs.YtajikfnpcobnpaaW.PrintLast
set_option linter.unusedVariables false
set_option linter.unusedSimpArgs false
section
variable {P : Program} {md : Region.Mode} {ops : Array Oper} {Q : Exit→Act→World→Prop} {S : World→Prop} {ds : List Nat} {T : Bool × List (List Nat × List Nat)} {B : List Nat}
/-- What has come up, the last first. -/
def lst (n : Nat) : List Nat→Array Bool
  | []=>Array.replicate n false
  | i :: s=>(lst n s).setIfInBounds i true
def lsl (n : Nat) : List Nat→List Bool
  | []=>List.replicate n false
  | i :: s=>(lsl n s).set i true
theorem lst_l (n : Nat) : ∀ s,(lst n s).toList=lsl n s
  | []=>by simp [lst,lsl]
  | i :: s=>by simp [lst,lsl,lst_l n s]
/-- What comes next, in this order. -/
def Todo (r : List (Nat × Nat)) (p : Prop) : Prop:=p
theorem rS {id n : Nat} {a : Act} {w : World} (r : List (Nat × Nat)) (hn : ops.size=n) (hm : P.follows .mixedOrders=true) (hT : rtab .any ops=T) (hB : waitsOk T.2 B=true) (hS : S w.drew)
    (h : S w.drew→Aside0 (rtab .any ops=T)→Aside0 (waitsOk T.2 B=true)→Todo r (wpAnyLast P .any ops Q S ds n (lst n []) a w.drew)) : (Code.region id ops true).wp P Q a w :=
  start_ (Array.replicate n false) hm hn rfl hS fun h1=>h h1 ⟨hT⟩ ⟨hB⟩
theorem rP {i u : Nat} {oi : Oper} {v : Value} {fuel n : Nat} {s : List Nat} {r : List (Nat × Nat)} {a : Act} {w : World} (hT : Aside0 (rtab md ops=T)) (hi : ops[i]? = some oi) (hN : oi.dst=some u) (hc : anyT T (lsl n s) ((lsl n s).set i true) i=true)
    (hQ : ∀ c a w,Q (.panic c) (a.put oi.dst v) w→Q (.panic c) a w) (hy : Yields P ops oi v a) {a' : Act} (ha : a.put (some u) v=a') (h : Todo r (wpAnyLast P md ops Q S ds fuel (lst n (i :: s)) a' w)) :
    Todo ((i,u) :: r) (wpAnyLast P md ops Q S ds (fuel+1) (lst n s) a w) :=
  pure_ (lst n (i :: s)) hi hN (any_of hT.out (by rw [lst_l,lst_l];exact hc)) hQ hy ha h
theorem rT {i u : Nat} {oi : Oper} {v : Value} {fuel n : Nat} {s : List Nat} {r : List (Nat × Nat)} {a : Act} {w : World} (hT : Aside0 (rtab md ops=T)) (hB : Aside0 (waitsOk T.2 B=true)) (hS : S w) (hi : ops[i]? = some oi) (hN : oi.dst=some u) (hc : takeW T B ds (lsl n s) ((lsl n s).set i true) i=true)
    (hQ : ∀ c a w,Q (.panic c) (a.put oi.dst v) w→Q (.panic c) a w) (hy : YieldsIf P ops S oi v a) {a' : Act} (ha : a.put (some u) v=a') (h : Todo r (wpAnyLast P md ops Q S ds fuel (lst n (i :: s)) a' w)) :
    Todo ((i,u) :: r) (wpAnyLast P md ops Q S ds (fuel+1) (lst n s) a w) :=
  take_ (lst n (i :: s)) hi hN (take_ofW hT.out hB.out (by rw [lst_l,lst_l];exact hc)) hQ hy hS ha h
theorem rL {i u : Nat} {N : Option Tmp} {oi : Oper} {fuel n : Nat} {s : List Nat} {r : List (Nat × Nat)} {a : Act} {w : World} (hT : Aside0 (rtab md ops=T)) (hi : ops[i]? = some oi) (hN : oi.dst=N) (hc : (readyT T.2 (lsl n s) == [i])=true) (hd : i ∈ ds)
    (h : ∀ K : Act→World→Prop,Shut (∀ a' w',Todo r (wpAnyLast P md ops Q S ds fuel (lst n (i :: s)) a' w')→K a' w')→if Region.wanted oi (yielded ops a.tmps)=true then Oper.wp P oi a w K Q else K (a.put N undef) w) :
    Todo ((i,u) :: r) (wpAnyLast P md ops Q S ds (fuel+1) (lst n s) a w) :=
  last_ (lst n (i :: s)) hi hN (one_of hT.out (by rw [lst_l,lst_l,hc];show (true && ((lsl n s).set i true == (lsl n s).set i true))=true;simp)) hd h
theorem rD {s : List Nat} {a : Act} {w : World} {k n : Nat} (hT : Aside0 (rtab md ops=T)) (hc : (readyT T.2 (lsl n s) == [])=true) (h : Q .normal a w) : Todo [] (wpAnyLast P md ops Q S ds k (lst n s) a w) :=
  done_ (done_of hT.out (by rw [lst_l];exact hc)) h
end
/-- All steps that only yield. -/
theorem rR {p q : Prop} (hq : q) (h : q→p:=by
  intro hq_
  repeat first
    | (refine Go.Proofs.Ytajikfnpcobnpaa.KitR.rP HT_ rfl rfl (by kernel_rfl) (fun _ _ _ h=>h) (Or.inl ⟨by rfl,by intro w';go_simp;with_reducible rfl⟩) (by simp only [Act.put,List.setIfInBounds_toArray,List.set_cons_zero,List.set_cons_succ,i64_w,i32_w];rfl) ?_)
    | (refine Go.Proofs.Ytajikfnpcobnpaa.KitR.rP (v:=undef) HT_ rfl rfl (by kernel_rfl) (fun _ _ _ h=>h) (Or.inr ⟨by rfl,rfl⟩) (by simp only [Act.put,List.setIfInBounds_toArray,List.set_cons_zero,List.set_cons_succ,i64_w,i32_w];rfl) ?_)
    | (refine Go.Proofs.Ytajikfnpcobnpaa.KitR.rT HT_ HW_ hHeld rfl rfl (by kernel_rfl) (fun _ _ _ h=>h) (Or.inl ⟨by rfl,by intro w' hs;(repeat (have s_:=hs.1;replace hs:=hs.2));go_simp;with_reducible rfl⟩) (by simp only [Act.put,List.setIfInBounds_toArray,List.set_cons_zero,List.set_cons_succ,i64_w,i32_w];rfl) ?_)
  exact hq_) : p:=h hq
end Go.Proofs.Ytajikfnpcobnpaa.KitR
-- SQUEEZED
