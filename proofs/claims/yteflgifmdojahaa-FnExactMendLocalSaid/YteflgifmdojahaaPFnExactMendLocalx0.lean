-- Laid by a program of this session.
import Derived.Test.YteflgifmdojahaaProg
import Derived.Below
import Derived.Deep.Draws
import Derived.Deep.AppendLies
import Derived.Maps.AppendAt
import Derived.OwnWalk
import Derived.Laws.BytesArg
import Derived.Laws.MakeOwn
import Derived.Laws.OwnMore
import Derived.Deep.OwnRows
import Derived.Tactics
import Derived.Lib.ConvBytes
import Derived.Laws.Slices
import Derived.WalkKit
import Derived.KernelRfl
import Derived.RowKit3
import Derived.Deep.LoopGhost
import Derived.Deep.QuietTactic
import Derived.BigQuiet
import Derived.WideLaws
import Derived.Deep.DeepCutAuto
import Derived.Deep.CutBlock
import Derived.Deep.RegionHeld3
import Derived.Laws.Rows
import Derived.Lib.AppendStr
import Derived.ArgAppend
import Derived.Laws.IdiomCopy
import Derived.OrdersHeld
import Derived.Laws.BitsLemmas
import Derived.Shelf.Abstract
import Derived.RowKit
import Derived.Lib.Hide
import Derived.Outline
import Derived.Test.YteflgifmdojahaaVMendLocalKit
import Derived.Test.YteflgifmdojahaaVMendLocalKitW
import Derived.Test.YteflgifmdojahaaVMendLocalKitX
import Derived.Test.YteflgifmdojahaaVMendLocalKitN
import Derived.Test.YteflgifmdojahaaVMendLocalKitR
import Derived.Test.YteflgifmdojahaaVMendLocalWWords
import Derived.Test.YteflgifmdojahaaVMendLocalWLast
import Derived.Test.YteflgifmdojahaaVMendLocalWTab
import Derived.Test.YteflgifmdojahaaVMendLocalWFour
import Derived.Test.YteflgifmdojahaaVMendLocalWQPut
import Derived.Test.YteflgifmdojahaaVMendLocalWApart
import Derived.Test.YteflgifmdojahaaVMendLocalWArr
import Derived.Test.YteflgifmdojahaaVMendLocalWZeros
import Derived.Test.YteflgifmdojahaaVMendLocalWFoot
import Derived.Test.YteflgifmdojahaaVMendLocalWKept
import Derived.Test.YteflgifmdojahaaVMendLocalWShare
import Derived.Test.YteflgifmdojahaaVMendLocalWN
import Derived.Test.YteflgifmdojahaaVMendLocalWFootNe
import Derived.Test.YteflgifmdojahaaVMendLocalWAt
import Derived.Test.YteflgifmdojahaaVMendLocalWEqStruct
import Derived.Test.YteflgifmdojahaaVMendLocalWRepsOne
import Derived.Test.YteflgifmdojahaaVMendLocalWInv
import Derived.Test.YteflgifmdojahaaVMendLocalWInvWords
import Derived.Test.YteflgifmdojahaaVMendLocalWGuard
import Derived.Test.YteflgifmdojahaaVMendLocalWNEv
import Derived.Test.YteflgifmdojahaaVMendLocalWMore
namespace Go.Proofs.Yteflgifmdojahaa.PFnExactMendLocal
open Go.RowKit Go.Proofs.YteflgifmdojahaaW.PrintWords Go.Proofs.YteflgifmdojahaaW.PrintLast Go.Proofs.YteflgifmdojahaaW.PrintMore
attribute [local go_sem] max2_int min2_int max_two min_two max_three min_three max_four min_four   -- for this text's walks alone
set_option linter.unusedVariables false
set_option linter.unusedSimpArgs false



def errW : Option Int→Value
  | none=>.nilIface
  | some c=>.iface 0 (.int .i64 c)
theorem errW_none : errW none = .nilIface:=rfl
theorem errW_some (c : Int) : errW (some c) = .iface 0 (.int .i64 c):=rfl

theorem info3 : (Try.prog.info? 3).map (fun i=>(i.zero,i.size,i.bytes))=some (some (.int .i64 0),1,8):=by kernel_rfl
theorem info5 : (Try.prog.info? 5).map (fun i=>(i.zero,i.size,i.bytes))=some (some (.int .u8 0),1,1):=by kernel_rfl
theorem info9 : (Try.prog.info? 9).map (fun i=>(i.zero,i.size,i.bytes))=some (some (.string ⟨#[]⟩),1,16):=by kernel_rfl
theorem info48 : (Try.prog.info? 48).map (fun i=>(i.zero,i.size,i.bytes))=some (some (.agg #[(.int .i64 0),(.string ⟨#[]⟩)]),2,24):=by kernel_rfl
-- the values' own types
/-! #### struct type 102 -/
structure S102 where
  f0 : Int
  f1 : ByteArray
def z102 : S102:=⟨(0 : Int),(⟨#[]⟩ : ByteArray)⟩
def k102 : Kd S102:=Kd.iso (Kd.pair (Kd.int .i64) Kd.string) (fun x : S102=>(x.f0,x.f1))
theorem k102_open {w : World} {x : S102} {cs : List Value} (h : k102.K w x cs) : cs=[.int .i64 x.f0, .string x.f1]:=by
  obtain ⟨_,_,rfl,rfl,rfl⟩:=h
  exact rfl
theorem k102_openM {w : World} {base : Nat} {ok : Nat→Prop} {x : S102} {cs : List Value} (h : k102.M w base ok x cs) : cs=[.int .i64 x.f0, .string x.f1]:=by
  obtain ⟨_,_,rfl,rfl,rfl⟩:=h
  exact rfl
theorem k102_mk (w : World) (x : S102)  : k102.K w x [.int .i64 x.f0, .string x.f1]:=⟨[.int .i64 x.f0],[.string x.f1],rfl,rfl,rfl⟩
theorem k102_mkM (w : World) (base : Nat) (ok : Nat→Prop) (x : S102)  : k102.M w base ok x [.int .i64 x.f0, .string x.f1]:=⟨[.int .i64 x.f0],[.string x.f1],rfl,rfl,rfl⟩
def rd_T102 (xs : List S102) (i : Int) : S102:=xs.getD i.toNat z102
theorem at_T102 {w : World} {A : Option Addr} {n : Nat} {xs : List S102} (h : Kd.C k102 w A n xs) (i : Int) (h0 : 0≤i) (h1 : i < n) : ∃ ad ,A=some ad∧w.cell? (ad.add (i.toNat*2))=some (.int .i64 (rd_T102 xs i).f0)∧w.cell? ⟨(ad.add (i.toNat*2)).block,(ad.add (i.toNat*2)).off+1,none⟩=some (.string (rd_T102 xs i).f1):=by
  obtain ⟨ad,c,e,_,hK,hc0⟩:=Kd.C_get h z102 i h0 h1
  have hc : ∀ j u,c[j]? = some u→w.cell? (ad.add (i.toNat*2+j))=some u:=hc0
  obtain rfl:=k102_open hK
  exact ⟨ad,e,hc 0 _ rfl,by rw [← add_field _ _ 1 (by omega)];exact hc 1 _ rfl⟩

/-! #### struct type 48 -/
structure S48 where
  f0 : Int
  f1 : ByteArray
def z48 : S48:=⟨(0 : Int),(⟨#[]⟩ : ByteArray)⟩
def k48 : Kd S48:=Kd.iso (Kd.pair (Kd.int .i64) Kd.string) (fun x : S48=>(x.f0,x.f1))
theorem k48_open {w : World} {x : S48} {cs : List Value} (h : k48.K w x cs) : cs=[.int .i64 x.f0, .string x.f1]:=by
  obtain ⟨_,_,rfl,rfl,rfl⟩:=h
  exact rfl
theorem k48_openM {w : World} {base : Nat} {ok : Nat→Prop} {x : S48} {cs : List Value} (h : k48.M w base ok x cs) : cs=[.int .i64 x.f0, .string x.f1]:=by
  obtain ⟨_,_,rfl,rfl,rfl⟩:=h
  exact rfl
theorem k48_mk (w : World) (x : S48)  : k48.K w x [.int .i64 x.f0, .string x.f1]:=⟨[.int .i64 x.f0],[.string x.f1],rfl,rfl,rfl⟩
theorem k48_mkM (w : World) (base : Nat) (ok : Nat→Prop) (x : S48)  : k48.M w base ok x [.int .i64 x.f0, .string x.f1]:=⟨[.int .i64 x.f0],[.string x.f1],rfl,rfl,rfl⟩
def rd_T48 (xs : List S48) (i : Int) : S48:=xs.getD i.toNat z48
theorem at_T48 {w : World} {A : Option Addr} {n : Nat} {xs : List S48} (h : Kd.C k48 w A n xs) (i : Int) (h0 : 0≤i) (h1 : i < n) : ∃ ad ,A=some ad∧w.cell? (ad.add (i.toNat*2))=some (.int .i64 (rd_T48 xs i).f0)∧w.cell? ⟨(ad.add (i.toNat*2)).block,(ad.add (i.toNat*2)).off+1,none⟩=some (.string (rd_T48 xs i).f1):=by
  obtain ⟨ad,c,e,_,hK,hc0⟩:=Kd.C_get h z48 i h0 h1
  have hc : ∀ j u,c[j]? = some u→w.cell? (ad.add (i.toNat*2+j))=some u:=hc0
  obtain rfl:=k48_open hK
  exact ⟨ad,e,hc 0 _ rfl,by rw [← add_field _ _ 1 (by omega)];exact hc 1 _ rfl⟩

abbrev Y : Bool:=true
abbrev Z : Bool:=false
theorem q1 {α : Type _} (l : List α) (i : Nat) (a : α) : l.toArray.setIfInBounds i a=(l.set i a).toArray:=List.setIfInBounds_toArray ..
theorem q2 {α : Type _} {x : α} {xs : List α} {a : α} : (x :: xs).set 0 a=a :: xs:=rfl
theorem q3 {α : Type _} {x : α} {xs : List α} {i : Nat} {a : α} : (x :: xs).set (i+1) a=x :: xs.set i a:=rfl
theorem am {p : Prop} (h : p) : Aside0 p := Aside0.mk h
theorem pb {B : Nat} {w W : World} (h : Below B w W) (n : Nat) : Below B w (W.drewN n) := pw_below_drewN h n
theorem pd {base : Nat} {w W : World} (h : Below base w W) : Below base w W.drew := below_drew1 h
theorem pa {w W : World} (h : Below w.heap.size w W) (o : Obj) : Below w.heap.size w (W.alloc o) := below_alloc h o
theorem pt {w W : World} {g j : Nat} {v : Value} (h : Below w.heap.size w W) (hg : w.heap.size ≤ g) : Below w.heap.size w (W.setCell ⟨g, j, none⟩ v) := below_set h hg
theorem pz {w W : World} (h : Below w.heap.size w W) : w.heap.size ≤ W.heap.size := below_size h
theorem pu {w W w2 : World} (h : Below w.heap.size w W) (k : Below W.heap.size W w2) : Below w.heap.size w w2 := below_step h k
theorem qn {w : World} {g : Nat} {o : Obj} (h : w.heap[g]? = some o) (n : Nat) : (w.drewN n).heap[g]? = some o := blk_drewN h n
theorem qa {w : World} {g : Nat} {o : Obj} (h : w.heap[g]? = some o) (o' : Obj) : (w.alloc o').heap[g]? = some o := blk_alloc h o'
theorem qd {w : World} {g : Nat} {o : Obj} (h : w.heap[g]? = some o) : w.drew.heap[g]? = some o := blk_drew h
theorem qb {w w1 : World} {g : Nat} {o : Obj} (h : w.heap[g]? = some o) (hb : Below w.heap.size w w1) : w1.heap[g]? = some o := blk_below h hb
theorem hh {a b c : Sort _} {p : a → b → c → Prop} (x : a) (y : b) (z : c) (h : p x y z) : p x y z := h
theorem q4 {α β : Type _} {f : α → β} {l : List α} : l.toArray.map f = (l.map f).toArray := List.map_toArray ..
theorem q5 {α β : Type _} {f : α → β} {a : α} {l : List α} : (a :: l).map f = f a :: l.map f := rfl
theorem q6 {α β : Type _} {f : α → β} : ([] : List α).map f = [] := rfl
theorem q7 {α : Type _} {i : Nat} {l : List α} : (l.drop i).length = l.length - i := List.length_drop ..
theorem q8 {α : Type _} {i : Nat} {l : List α} : (l.take i).length = min i l.length := List.length_take ..
theorem od {p : Prop} [Decidable p] (e : decide p = true) : p := of_decide_eq_true e
section
variable {P : Program} {md : Region.Mode} {ops : Array Oper} {Q : Exit → Act → World → Prop} {S : World → Prop} {ds : List Nat} {T : Bool × List (List Nat × List Nat)} {B : List Nat}
/-- What has come up, the last first. -/
def lst (n : Nat) : List Nat → Array Bool
  | [] => Array.replicate n false
  | i :: s => (lst n s).setIfInBounds i true
def lsl (n : Nat) : List Nat → List Bool
  | [] => List.replicate n false
  | i :: s => (lsl n s).set i true
theorem lst_l (n : Nat) : ∀ s, (lst n s).toList = lsl n s
  | [] => by simp [lst, lsl]
  | i :: s => by simp [lst, lsl, lst_l n s]
/-- What comes next, in this order. -/
def Todo (r : List (Nat × Nat)) (p : Prop) : Prop := p
theorem rS {id n : Nat} {a : Act} {w : World} (r : List (Nat × Nat)) (hn : ops.size = n) (hm : P.follows .mixedOrders = true) (hT : rtab .any ops = T) (hB : waitsOk T.2 B = true) (hS : S w.drew)
    (h : S w.drew → Aside0 (rtab .any ops = T) → Aside0 (waitsOk T.2 B = true) → Todo r (wpAnyLast P .any ops Q S ds n (lst n []) a w.drew)) : (Code.region id ops true).wp P Q a w :=
  start_ (Array.replicate n false) hm hn rfl hS fun h1 => h h1 ⟨hT⟩ ⟨hB⟩
theorem rP {i u : Nat} {oi : Oper} {v : Value} {fuel n : Nat} {s : List Nat} {r : List (Nat × Nat)} {a : Act} {w : World} (hT : Aside0 (rtab md ops = T)) (hi : ops[i]? = some oi) (hN : oi.dst = some u) (hc : anyT T (lsl n s) ((lsl n s).set i true) i = true)
    (hQ : ∀ c a w, Q (.panic c) (a.put oi.dst v) w → Q (.panic c) a w) (hy : Yields P ops oi v a) {a' : Act} (ha : a.put (some u) v = a') (h : Todo r (wpAnyLast P md ops Q S ds fuel (lst n (i :: s)) a' w)) :
    Todo ((i, u) :: r) (wpAnyLast P md ops Q S ds (fuel + 1) (lst n s) a w) :=
  pure_ (lst n (i :: s)) hi hN (any_of hT.out (by rw [lst_l, lst_l]; exact hc)) hQ hy ha h
theorem rT {i u : Nat} {oi : Oper} {v : Value} {fuel n : Nat} {s : List Nat} {r : List (Nat × Nat)} {a : Act} {w : World} (hT : Aside0 (rtab md ops = T)) (hB : Aside0 (waitsOk T.2 B = true)) (hS : S w) (hi : ops[i]? = some oi) (hN : oi.dst = some u) (hc : takeW T B ds (lsl n s) ((lsl n s).set i true) i = true)
    (hQ : ∀ c a w, Q (.panic c) (a.put oi.dst v) w → Q (.panic c) a w) (hy : YieldsIf P ops S oi v a) {a' : Act} (ha : a.put (some u) v = a') (h : Todo r (wpAnyLast P md ops Q S ds fuel (lst n (i :: s)) a' w)) :
    Todo ((i, u) :: r) (wpAnyLast P md ops Q S ds (fuel + 1) (lst n s) a w) :=
  take_ (lst n (i :: s)) hi hN (take_ofW hT.out hB.out (by rw [lst_l, lst_l]; exact hc)) hQ hy hS ha h
theorem rO {i u : Nat} {N : Option Tmp} {oi : Oper} {fuel n : Nat} {s : List Nat} {r : List (Nat × Nat)} {a : Act} {w : World} (hT : Aside0 (rtab md ops = T)) (hi : ops[i]? = some oi) (hN : oi.dst = N) (hc : (readyT T.2 (lsl n s) == [i]) = true) (hd : i ∉ ds)
    (h : ∀ K : Act → World → Prop, Shut (∀ a' w', S w' → (S w' → Todo r (wpAnyLast P md ops Q S ds fuel (lst n (i :: s)) a' w')) → K a' w') → if Region.wanted oi (yielded ops a.tmps) = true then Oper.wp P oi a w K Q else K (a.put N undef) w) :
    Todo ((i, u) :: r) (wpAnyLast P md ops Q S ds (fuel + 1) (lst n s) a w) :=
  one_ (lst n (i :: s)) hi hN (one_of hT.out (by rw [lst_l, lst_l, hc]; show (true && ((lsl n s).set i true == (lsl n s).set i true)) = true; simp)) hd h
theorem rL {i u : Nat} {N : Option Tmp} {oi : Oper} {fuel n : Nat} {s : List Nat} {r : List (Nat × Nat)} {a : Act} {w : World} (hT : Aside0 (rtab md ops = T)) (hi : ops[i]? = some oi) (hN : oi.dst = N) (hc : (readyT T.2 (lsl n s) == [i]) = true) (hd : i ∈ ds)
    (h : ∀ K : Act → World → Prop, Shut (∀ a' w', Todo r (wpAnyLast P md ops Q S ds fuel (lst n (i :: s)) a' w') → K a' w') → if Region.wanted oi (yielded ops a.tmps) = true then Oper.wp P oi a w K Q else K (a.put N undef) w) :
    Todo ((i, u) :: r) (wpAnyLast P md ops Q S ds (fuel + 1) (lst n s) a w) :=
  last_ (lst n (i :: s)) hi hN (one_of hT.out (by rw [lst_l, lst_l, hc]; show (true && ((lsl n s).set i true == (lsl n s).set i true)) = true; simp)) hd h
theorem rD {s : List Nat} {a : Act} {w : World} {k n : Nat} (hT : Aside0 (rtab md ops = T)) (hc : (readyT T.2 (lsl n s) == []) = true) (h : Q .normal a w) : Todo [] (wpAnyLast P md ops Q S ds k (lst n s) a w) :=
  done_ (done_of hT.out (by rw [lst_l]; exact hc)) h
theorem rN {r : List (Nat × Nat)} {fuel : Nat} {l : Array Bool} {a a' : Act} {w : World} (ha : a = a') (h : Todo r (wpAnyLast P md ops Q S ds fuel l a' w)) : Todo r (wpAnyLast P md ops Q S ds fuel l a w) := norm_ ha h
end
/-- All steps that only yield. -/
theorem rR {p q : Prop} (hq : q) (h : q → p := by
  intro hq_
  repeat first
    | (refine rP HT_ rfl rfl (by kernel_rfl) hh (Or.inl ⟨by rfl, by intro w'; go_simp; with_reducible rfl⟩) (by simp only [Act.put, q1, q2, q3, i64_w, i32_w]; rfl) ?_)
    | (refine rP (v := undef) HT_ rfl rfl (by kernel_rfl) hh (Or.inr ⟨by rfl, rfl⟩) (by simp only [Act.put, q1, q2, q3, i64_w, i32_w]; rfl) ?_)
    | (refine rT HT_ HW_ hHeld rfl rfl (by kernel_rfl) hh (Or.inl ⟨by rfl, by intro w' hs; (repeat (have s_ := hs.1; replace hs := hs.2)); go_simp; with_reducible rfl⟩) (by simp only [Act.put, q1, q2, q3, i64_w, i32_w]; rfl) ?_)
  exact hq_) : p := h hq
theorem d0 {p : Prop} (h : p := by repeat (first|(with_reducible first|exact HB.out|apply pa|apply pb|apply pd)|exact HB.out)) : p := h
theorem d1 {p : Prop} (h : p := by (try simp only [q4,q5,q6]);first|done|rfl|(simp only [q7,q8];rfl)) : p := h
theorem d2 {p : Prop} (h : p := by first|rfl|(simp [errW_none,errW_some] <;> rfl)|(simp [*,errW_none,errW_some] <;> rfl)) : p := h
theorem d3 {p : Prop} (h : p := by first|(with_reducible assumption)|assumption) : p := h
theorem d4 {p : Prop} (h : p := by first|rfl|(simp;done)|(simp [*];done)) : p := h
theorem d5 {p : Prop} (h : p := by kernel_rfl) : p := h
theorem d6 {p : Prop} (h : p := by (with_reducible repeat (first|apply Kd.R_alloc|apply Kd.R_drewN|apply Kd.R_drew));exact HO_6.out) : p := h
theorem d7 {p : Prop} (h : p := by (with_reducible repeat (first|apply Kd.R_alloc|apply Kd.R_drewN|apply Kd.R_drew));exact HO_8.out) : p := h
theorem d8 {p : Prop} (h : p := by (with_reducible repeat (first|apply Kd.R_alloc|apply Kd.R_drewN|apply Kd.R_drew));exact HO_32.out) : p := h
theorem d9 {p : Prop} (h : p := by (with_reducible repeat (first|apply Kd.R_alloc|apply Kd.R_drewN|apply Kd.R_drew));exact HO_10.out) : p := h
theorem d10 {p : Prop} (h : p := by (with_reducible repeat (first|apply Kd.R_alloc|apply Kd.R_drewN|apply Kd.R_drew));exact HO_5.out) : p := h
theorem d11 {p : Prop} (h : p := by repeat (first|exact Drawn0.refl _|apply Drawn0.step)) : p := h
theorem d12 {p : Prop} (h : p := by decide) : p := h
theorem d13 {p : Prop} (h : p := by (with_reducible repeat (first|apply Kd.R_alloc|apply Kd.R_drewN|apply Kd.R_drew));exact HO212.out) : p := h
theorem d14 {p : Prop} (h : p := by (with_reducible repeat (first|apply Kd.R_alloc|apply Kd.R_drewN|apply Kd.R_drew));exact HO_34.out) : p := h
theorem d15 {p : Prop} (h : p := by first|exact Kd.R_nil _ _ _ _ _|exact Kd.N_nil _ _ _ _ _|exact Kd.V_nil _ _ _ _ _|exact Kd.Q_nil _ _ _ _ _|exact Kd.S_nil _ _ _ _ _) : p := h
theorem d16 {p : Prop} (h : p := by omega) : p := h
theorem d17 {p : Prop} (h : p := by (with_reducible repeat (first|apply Kd.R_alloc|apply Kd.R_drewN|apply Kd.R_drew));exact (Kd.R_mono (Kd.R_far (p:=⟨gb226,1,none⟩) (Kd.R_far (p:=⟨gb226,0,none⟩) (Kd.R_mono HO219.out (fun k_ hk=>(⟨hk,hk.2⟩:_∧k_ ≠ gb226))) (fun _ hk=>hk.2) (.int .i64 t223)) (fun _ hk=>hk.2) (.string t224)) (fun _ h_=>h_.1))) : p := h
theorem d18 {p : Prop} (h : p := by (with_reducible repeat (first|apply Kd.R_alloc|apply Kd.R_drewN|apply Kd.R_drew));exact (Kd.R_mono (Kd.R_far (p:=⟨gb226,1,none⟩) (Kd.R_far (p:=⟨gb226,0,none⟩) (Kd.R_mono HO212.out (fun k_ hk=>(⟨hk,hk.2⟩:_∧k_ ≠ gb226))) (fun _ hk=>hk.2) (.int .i64 t223)) (fun _ hk=>hk.2) (.string t224)) (fun _ h_=>h_.1))) : p := h
theorem d19 {p : Prop} (h : p := by (with_reducible repeat (first|apply Kd.R_alloc|apply Kd.R_drewN|apply Kd.R_drew));exact (Kd.R_mono (Kd.R_far (p:=⟨gb216,1,none⟩) (Kd.R_far (p:=⟨gb216,0,none⟩) (Kd.R_mono HO212.out (fun k_ hk=>(⟨hk,hk.2⟩:_∧k_ ≠ gb216))) (fun _ hk=>hk.2) (.int .i64 t213)) (fun _ hk=>hk.2) (.string t214)) (fun _ h_=>h_.1))) : p := h
theorem d20 {p : Prop} (h : p := by first|rfl|(simp [errW_none,errW_some] <;> rfl)|(simp only [← hji9];first|rfl|(simp [errW_none,errW_some] <;> rfl))|(simp [*,errW_none,errW_some] <;> rfl)) : p := h
theorem d21 {p : Prop} (h : p := by (with_reducible repeat (first|apply Kd.R_alloc|apply Kd.R_drewN|apply Kd.R_drew));exact HO217.out) : p := h
theorem d22 {p : Prop} (h : p := by (with_reducible repeat (first|apply Kd.R_alloc|apply Kd.R_drewN|apply Kd.R_drew));exact HO147.out) : p := h
theorem d23 {p : Prop} (h : p := by (with_reducible repeat (first|apply Kd.R_alloc|apply Kd.R_drewN|apply Kd.R_drew));exact HO_3.out) : p := h
theorem d24 {p : Prop} (h : p := by simp) : p := h
theorem d25 {p : Prop} (h : p := by first|omega|exact Nat.le_refl _) : p := h
theorem d26 {p : Prop} (h : p := by have:=HK1.out;omega) : p := h
theorem d27 {p : Prop} (h : p := by (with_reducible repeat (first|apply Kd.R_alloc|apply Kd.R_drewN|apply Kd.R_drew));exact HO219.out) : p := h
theorem d28 {p : Prop} (h : p := by rfl) : p := h
theorem d29 {p : Prop} (h : p := by have:=HJ4.out;have:=HK2.out;have:=HK3.out;omega) : p := h
theorem d30 {p : Prop} (h : p := by (with_reducible repeat (first|apply Kd.R_alloc|apply Kd.R_drewN|apply Kd.R_drew));exact Kd.R_mono HO219.out (fun _ hk=>⟨hk.1.2,hk.2⟩)) : p := h
end Go.Proofs.Yteflgifmdojahaa.PFnExactMendLocal
-- SQUEEZED
-- SQUEEZED2
-- SQUEEZED3
-- SQUEEZED4
-- SQUEEZED5
-- SQUEEZED6
