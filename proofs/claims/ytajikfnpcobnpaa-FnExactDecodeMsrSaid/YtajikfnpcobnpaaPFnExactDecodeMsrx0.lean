-- Laid by a program of this session.
import Derived.Test.YtajikfnpcobnpaaProg
import Derived.Below
import Derived.Deep.Draws
import Derived.Deep.AppendLies
import Derived.Maps.AppendAt
import Derived.OwnWalk
import Derived.Laws.BytesArg
import Derived.Laws.MakeOwn
import Derived.Laws.OwnMore
import Derived.Deep.OwnRows
import Derived.Tactics
import Derived.Lib.ConvBytes
import Derived.Laws.Slices
import Derived.WalkKit
import Derived.KernelRfl
import Derived.RowKit3
import Derived.Deep.LoopGhost
import Derived.Deep.QuietTactic
import Derived.BigQuiet
import Derived.WideLaws
import Derived.Deep.DeepCutAuto
import Derived.Deep.CutBlock
import Derived.Deep.RegionHeld3
import Derived.Laws.Rows
import Derived.Lib.AppendStr
import Derived.ArgAppend
import Derived.Laws.IdiomCopy
import Derived.OrdersHeld
import Derived.Laws.BitsLemmas
import Derived.Shelf.Abstract
import Derived.RowKit
import Derived.Lib.Hide
import Derived.Outline
import Derived.Test.YtajikfnpcobnpaaVDecodeMsrKit
import Derived.Test.YtajikfnpcobnpaaVDecodeMsrKitW
import Derived.Test.YtajikfnpcobnpaaVDecodeMsrKitX
import Derived.Test.YtajikfnpcobnpaaVDecodeMsrKitN
import Derived.Test.YtajikfnpcobnpaaVDecodeMsrKitR
import Derived.Test.YtajikfnpcobnpaaVDecodeMsrWWords
import Derived.Test.YtajikfnpcobnpaaVDecodeMsrWLast
import Derived.Test.YtajikfnpcobnpaaVDecodeMsrWTab
import Derived.Test.YtajikfnpcobnpaaVDecodeMsrWFour
import Derived.Test.YtajikfnpcobnpaaVDecodeMsrWQPut
import Derived.Test.YtajikfnpcobnpaaVDecodeMsrWApart
import Derived.Test.YtajikfnpcobnpaaVDecodeMsrWArr
import Derived.Test.YtajikfnpcobnpaaVDecodeMsrWZeros
import Derived.Test.YtajikfnpcobnpaaVDecodeMsrWFoot
import Derived.Test.YtajikfnpcobnpaaVDecodeMsrWKept
import Derived.Test.YtajikfnpcobnpaaVDecodeMsrWShare
import Derived.Test.YtajikfnpcobnpaaVDecodeMsrWN
import Derived.Test.YtajikfnpcobnpaaVDecodeMsrWFootNe
import Derived.Test.YtajikfnpcobnpaaVDecodeMsrWAt
import Derived.Test.YtajikfnpcobnpaaVDecodeMsrWEqStruct
import Derived.Test.YtajikfnpcobnpaaVDecodeMsrWRepsOne
import Derived.Test.YtajikfnpcobnpaaVDecodeMsrWInv
import Derived.Test.YtajikfnpcobnpaaVDecodeMsrWInvWords
import Derived.Test.YtajikfnpcobnpaaVDecodeMsrWGuard
import Derived.Test.YtajikfnpcobnpaaVDecodeMsrWNEv
import Derived.Test.YtajikfnpcobnpaaVDecodeMsrWMore
namespace Go.Proofs.Ytajikfnpcobnpaa.PFnExactDecodeMsr
open Go.RowKit Go.Proofs.YtajikfnpcobnpaaW.PrintWords Go.Proofs.YtajikfnpcobnpaaW.PrintLast Go.Proofs.YtajikfnpcobnpaaW.PrintMore
attribute [local go_sem] max2_int min2_int max_two min_two max_three min_three max_four min_four   -- for this text's walks alone
set_option linter.unusedVariables false
set_option linter.unusedSimpArgs false



def errW : Option Int→Value
  | none=>.nilIface
  | some c=>.iface 0 (.int .i64 c)
theorem errW_none : errW none = .nilIface:=rfl
theorem errW_some (c : Int) : errW (some c) = .iface 0 (.int .i64 c):=rfl

theorem info5 : (Try.prog.info? 5).map (fun i=>(i.zero,i.size,i.bytes))=some (some (.int .u8 0),1,1):=by kernel_rfl
theorem info25 : (Try.prog.info? 25).map (fun i=>(i.zero,i.size,i.bytes))=some (some (.slice none 0 0),1,24):=by kernel_rfl
theorem info57 : (Try.prog.info? 57).map (fun i=>(i.zero,i.size,i.bytes))=some (some (.slice none 0 0),1,24):=by kernel_rfl
theorem info69 : (Try.prog.info? 69).map (fun i=>(i.zero,i.size,i.bytes))=some (some (.agg #[(.int .i64 0),(.slice none 0 0)]),2,32):=by kernel_rfl
-- the values' own types
def rd_L2 (xs : List (List Int)) (i : Int) : (List Int):=xs.getD i.toNat ([] : List Int)
theorem at_L2 {w : World} {A : Option Addr} {n : Nat} {xs : List (List Int)} (h : Kd.C (Kd.slice 5 (Kd.int .u8)) w A n xs) (i : Int) (h0 : 0≤i) (h1 : i < n) : ∃ ad A0 c0,A=some ad∧w.cell? (ad.add i.toNat)=some (.slice A0 (rd_L2 xs i).length c0)∧(rd_L2 xs i).length≤c0∧(Kd.int .u8).C w A0 (rd_L2 xs i).length (rd_L2 xs i):=by
  obtain ⟨ad,c,e,_,hK,hc0⟩:=Kd.C_get h ([] : List Int) i h0 h1
  have hc : ∀ j u,c[j]? = some u→w.cell? (ad.add (i.toNat*1+j))=some u:=hc0
  obtain ⟨A0,c0,rfl,l0,g0⟩:=hK
  exact ⟨ad,A0,c0,e,by have hq:=hc 0 _ rfl;rwa [Nat.mul_one,Nat.add_zero] at hq,l0,g0⟩

/-! #### struct type 169 -/
structure S169 where
  f0 : Int
  f1 : (List Int)
def z169 : S169:=⟨(0 : Int),([] : List Int)⟩
def k169 : Kd S169:=Kd.iso (Kd.pair (Kd.int .i64) (Kd.slice 5 (Kd.int .u8))) (fun x : S169=>(x.f0,x.f1))
theorem k169_open {w : World} {x : S169} {cs : List Value} (h : k169.K w x cs) : ∃ A1 c1,cs=[.int .i64 x.f0, .slice A1 x.f1.length c1]∧x.f1.length≤c1∧(Kd.int .u8).C w A1 x.f1.length x.f1:=by
  obtain ⟨_,_,rfl,rfl,⟨A1,c1,rfl,l1,g1⟩⟩:=h
  exact ⟨A1,c1,rfl,l1,g1⟩
theorem k169_openM {w : World} {base : Nat} {ok : Nat→Prop} {x : S169} {cs : List Value} (h : k169.M w base ok x cs) : ∃ v1,cs=[.int .i64 x.f0,v1]∧(Kd.int .u8).R 5 w base ok v1 x.f1:=by
  obtain ⟨_,_,rfl,rfl,⟨v1,rfl,g1⟩⟩:=h
  exact ⟨v1,rfl,g1⟩
theorem k169_mk (w : World) (x : S169) {A1 : Option Addr} {c1 : Nat} (l1 : x.f1.length≤c1) (g1 : (Kd.int .u8).C w A1 x.f1.length x.f1) : k169.K w x [.int .i64 x.f0, .slice A1 x.f1.length c1]:=⟨[.int .i64 x.f0],[.slice A1 x.f1.length c1],rfl,rfl,⟨A1,c1,rfl,l1,g1⟩⟩
theorem k169_mkM (w : World) (base : Nat) (ok : Nat→Prop) (x : S169) {v1 : Value} (g1 : (Kd.int .u8).R 5 w base ok v1 x.f1) : k169.M w base ok x [.int .i64 x.f0,v1]:=⟨[.int .i64 x.f0],[v1],rfl,rfl,⟨v1,rfl,g1⟩⟩
theorem k169_openF {W : World} {ok : Nat→Prop} {x : S169} {cs : List Value} (h : Kd.FK k169 W ok x cs) : ∃ A1 c1,cs=[.int .i64 x.f0, .slice A1 x.f1.length c1]∧x.f1.length≤c1∧Kd.F (Kd.int .u8) W ok A1 x.f1.length x.f1:=by
  obtain ⟨A1,c1,rfl,l1,_⟩:=k169_open (Kd.FK_now h)
  exact ⟨A1,c1,rfl,l1,(fun W' hW=>by obtain ⟨A1_,c1_,he,l1_,g1_⟩:=k169_open (h W' hW);injection (Option.some.inj (show some (Value.slice A1 x.f1.length c1)=some (Value.slice A1_ x.f1.length c1_) from congrArg (fun l=>l[1]?) he)) with ha_ _ _;rw [ha_];exact g1_)⟩
theorem k169_mkF (W : World) (ok : Nat→Prop) (x : S169) {A1 : Option Addr} {c1 : Nat} (l1 : x.f1.length≤c1) (g1 : Kd.F (Kd.int .u8) W ok A1 x.f1.length x.f1) : Kd.FK k169 W ok x [.int .i64 x.f0, .slice A1 x.f1.length c1]:=fun W2 hW=>k169_mk W2 x l1 (g1 W2 hW)
def rd_T169 (xs : List S169) (i : Int) : S169:=xs.getD i.toNat z169
theorem at_T169 {w : World} {A : Option Addr} {n : Nat} {xs : List S169} (h : Kd.C k169 w A n xs) (i : Int) (h0 : 0≤i) (h1 : i < n) : ∃ ad A1 c1,A=some ad∧w.cell? (ad.add (i.toNat*2))=some (.int .i64 (rd_T169 xs i).f0)∧w.cell? ⟨(ad.add (i.toNat*2)).block,(ad.add (i.toNat*2)).off+1,none⟩=some (.slice A1 (rd_T169 xs i).f1.length c1)∧(rd_T169 xs i).f1.length≤c1∧(Kd.int .u8).C w A1 (rd_T169 xs i).f1.length (rd_T169 xs i).f1:=by
  obtain ⟨ad,c,e,_,hK,hc0⟩:=Kd.C_get h z169 i h0 h1
  have hc : ∀ j u,c[j]? = some u→w.cell? (ad.add (i.toNat*2+j))=some u:=hc0
  obtain ⟨A1,c1,rfl,l1,g1⟩:=k169_open hK
  exact ⟨ad,A1,c1,e,hc 0 _ rfl,by rw [← add_field _ _ 1 (by omega)];exact hc 1 _ rfl,l1,g1⟩

/-! #### struct type 69 -/
structure S69 where
  f0 : Int
  f1 : (List Int)
def z69 : S69:=⟨(0 : Int),([] : List Int)⟩
def k69 : Kd S69:=Kd.iso (Kd.pair (Kd.int .i64) (Kd.slice 5 (Kd.int .u8))) (fun x : S69=>(x.f0,x.f1))
theorem k69_open {w : World} {x : S69} {cs : List Value} (h : k69.K w x cs) : ∃ A1 c1,cs=[.int .i64 x.f0, .slice A1 x.f1.length c1]∧x.f1.length≤c1∧(Kd.int .u8).C w A1 x.f1.length x.f1:=by
  obtain ⟨_,_,rfl,rfl,⟨A1,c1,rfl,l1,g1⟩⟩:=h
  exact ⟨A1,c1,rfl,l1,g1⟩
theorem k69_openM {w : World} {base : Nat} {ok : Nat→Prop} {x : S69} {cs : List Value} (h : k69.M w base ok x cs) : ∃ v1,cs=[.int .i64 x.f0,v1]∧(Kd.int .u8).R 5 w base ok v1 x.f1:=by
  obtain ⟨_,_,rfl,rfl,⟨v1,rfl,g1⟩⟩:=h
  exact ⟨v1,rfl,g1⟩
theorem k69_mk (w : World) (x : S69) {A1 : Option Addr} {c1 : Nat} (l1 : x.f1.length≤c1) (g1 : (Kd.int .u8).C w A1 x.f1.length x.f1) : k69.K w x [.int .i64 x.f0, .slice A1 x.f1.length c1]:=⟨[.int .i64 x.f0],[.slice A1 x.f1.length c1],rfl,rfl,⟨A1,c1,rfl,l1,g1⟩⟩
theorem k69_mkM (w : World) (base : Nat) (ok : Nat→Prop) (x : S69) {v1 : Value} (g1 : (Kd.int .u8).R 5 w base ok v1 x.f1) : k69.M w base ok x [.int .i64 x.f0,v1]:=⟨[.int .i64 x.f0],[v1],rfl,rfl,⟨v1,rfl,g1⟩⟩
theorem k69_openF {W : World} {ok : Nat→Prop} {x : S69} {cs : List Value} (h : Kd.FK k69 W ok x cs) : ∃ A1 c1,cs=[.int .i64 x.f0, .slice A1 x.f1.length c1]∧x.f1.length≤c1∧Kd.F (Kd.int .u8) W ok A1 x.f1.length x.f1:=by
  obtain ⟨A1,c1,rfl,l1,_⟩:=k69_open (Kd.FK_now h)
  exact ⟨A1,c1,rfl,l1,(fun W' hW=>by obtain ⟨A1_,c1_,he,l1_,g1_⟩:=k69_open (h W' hW);injection (Option.some.inj (show some (Value.slice A1 x.f1.length c1)=some (Value.slice A1_ x.f1.length c1_) from congrArg (fun l=>l[1]?) he)) with ha_ _ _;rw [ha_];exact g1_)⟩
theorem k69_mkF (W : World) (ok : Nat→Prop) (x : S69) {A1 : Option Addr} {c1 : Nat} (l1 : x.f1.length≤c1) (g1 : Kd.F (Kd.int .u8) W ok A1 x.f1.length x.f1) : Kd.FK k69 W ok x [.int .i64 x.f0, .slice A1 x.f1.length c1]:=fun W2 hW=>k69_mk W2 x l1 (g1 W2 hW)
def rd_T69 (xs : List S69) (i : Int) : S69:=xs.getD i.toNat z69
theorem at_T69 {w : World} {A : Option Addr} {n : Nat} {xs : List S69} (h : Kd.C k69 w A n xs) (i : Int) (h0 : 0≤i) (h1 : i < n) : ∃ ad A1 c1,A=some ad∧w.cell? (ad.add (i.toNat*2))=some (.int .i64 (rd_T69 xs i).f0)∧w.cell? ⟨(ad.add (i.toNat*2)).block,(ad.add (i.toNat*2)).off+1,none⟩=some (.slice A1 (rd_T69 xs i).f1.length c1)∧(rd_T69 xs i).f1.length≤c1∧(Kd.int .u8).C w A1 (rd_T69 xs i).f1.length (rd_T69 xs i).f1:=by
  obtain ⟨ad,c,e,_,hK,hc0⟩:=Kd.C_get h z69 i h0 h1
  have hc : ∀ j u,c[j]? = some u→w.cell? (ad.add (i.toNat*2+j))=some u:=hc0
  obtain ⟨A1,c1,rfl,l1,g1⟩:=k69_open hK
  exact ⟨ad,A1,c1,e,hc 0 _ rfl,by rw [← add_field _ _ 1 (by omega)];exact hc 1 _ rfl,l1,g1⟩

def rd_L5 (xs : List (List Int)) (i : Int) : (List Int):=xs.getD i.toNat ([] : List Int)
theorem at_L5 {w : World} {A : Option Addr} {n : Nat} {xs : List (List Int)} (h : Kd.C (Kd.slice 3 (Kd.int .i64)) w A n xs) (i : Int) (h0 : 0≤i) (h1 : i < n) : ∃ ad A0 c0,A=some ad∧w.cell? (ad.add i.toNat)=some (.slice A0 (rd_L5 xs i).length c0)∧(rd_L5 xs i).length≤c0∧(Kd.int .i64).C w A0 (rd_L5 xs i).length (rd_L5 xs i):=by
  obtain ⟨ad,c,e,_,hK,hc0⟩:=Kd.C_get h ([] : List Int) i h0 h1
  have hc : ∀ j u,c[j]? = some u→w.cell? (ad.add (i.toNat*1+j))=some u:=hc0
  obtain ⟨A0,c0,rfl,l0,g0⟩:=hK
  exact ⟨ad,A0,c0,e,by have hq:=hc 0 _ rfl;rwa [Nat.mul_one,Nat.add_zero] at hq,l0,g0⟩

abbrev Y : Bool:=true
abbrev Z : Bool:=false
theorem q1 {α : Type _} (l : List α) (i : Nat) (a : α) : l.toArray.setIfInBounds i a=(l.set i a).toArray:=List.setIfInBounds_toArray ..
theorem q2 {α : Type _} {x : α} {xs : List α} {a : α} : (x :: xs).set 0 a=a :: xs:=rfl
theorem q3 {α : Type _} {x : α} {xs : List α} {i : Nat} {a : α} : (x :: xs).set (i+1) a=x :: xs.set i a:=rfl
theorem am {p : Prop} (h : p) : Aside0 p := Aside0.mk h
theorem pb {B : Nat} {w W : World} (h : Below B w W) (n : Nat) : Below B w (W.drewN n) := pw_below_drewN h n
theorem pd {base : Nat} {w W : World} (h : Below base w W) : Below base w W.drew := below_drew1 h
theorem pa {w W : World} (h : Below w.heap.size w W) (o : Obj) : Below w.heap.size w (W.alloc o) := below_alloc h o
theorem pt {w W : World} {g j : Nat} {v : Value} (h : Below w.heap.size w W) (hg : w.heap.size ≤ g) : Below w.heap.size w (W.setCell ⟨g, j, none⟩ v) := below_set h hg
theorem pz {w W : World} (h : Below w.heap.size w W) : w.heap.size ≤ W.heap.size := below_size h
theorem pu {w W w2 : World} (h : Below w.heap.size w W) (k : Below W.heap.size W w2) : Below w.heap.size w w2 := below_step h k
theorem qn {w : World} {g : Nat} {o : Obj} (h : w.heap[g]? = some o) (n : Nat) : (w.drewN n).heap[g]? = some o := blk_drewN h n
theorem qa {w : World} {g : Nat} {o : Obj} (h : w.heap[g]? = some o) (o' : Obj) : (w.alloc o').heap[g]? = some o := blk_alloc h o'
theorem qd {w : World} {g : Nat} {o : Obj} (h : w.heap[g]? = some o) : w.drew.heap[g]? = some o := blk_drew h
theorem qb {w w1 : World} {g : Nat} {o : Obj} (h : w.heap[g]? = some o) (hb : Below w.heap.size w w1) : w1.heap[g]? = some o := blk_below h hb
theorem hh {a b c : Sort _} {p : a → b → c → Prop} (x : a) (y : b) (z : c) (h : p x y z) : p x y z := h
theorem q4 {α β : Type _} {f : α → β} {l : List α} : l.toArray.map f = (l.map f).toArray := List.map_toArray ..
theorem q5 {α β : Type _} {f : α → β} {a : α} {l : List α} : (a :: l).map f = f a :: l.map f := rfl
theorem q6 {α β : Type _} {f : α → β} : ([] : List α).map f = [] := rfl
theorem q7 {α : Type _} {i : Nat} {l : List α} : (l.drop i).length = l.length - i := List.length_drop ..
theorem q8 {α : Type _} {i : Nat} {l : List α} : (l.take i).length = min i l.length := List.length_take ..
theorem od {p : Prop} [Decidable p] (e : decide p = true) : p := of_decide_eq_true e
section
variable {P : Program} {md : Region.Mode} {ops : Array Oper} {Q : Exit → Act → World → Prop} {S : World → Prop} {ds : List Nat} {T : Bool × List (List Nat × List Nat)} {B : List Nat}
/-- What has come up, the last first. -/
def lst (n : Nat) : List Nat → Array Bool
  | [] => Array.replicate n false
  | i :: s => (lst n s).setIfInBounds i true
def lsl (n : Nat) : List Nat → List Bool
  | [] => List.replicate n false
  | i :: s => (lsl n s).set i true
theorem lst_l (n : Nat) : ∀ s, (lst n s).toList = lsl n s
  | [] => by simp [lst, lsl]
  | i :: s => by simp [lst, lsl, lst_l n s]
/-- What comes next, in this order. -/
def Todo (r : List (Nat × Nat)) (p : Prop) : Prop := p
theorem rS {id n : Nat} {a : Act} {w : World} (r : List (Nat × Nat)) (hn : ops.size = n) (hm : P.follows .mixedOrders = true) (hT : rtab .any ops = T) (hB : waitsOk T.2 B = true) (hS : S w.drew)
    (h : S w.drew → Aside0 (rtab .any ops = T) → Aside0 (waitsOk T.2 B = true) → Todo r (wpAnyLast P .any ops Q S ds n (lst n []) a w.drew)) : (Code.region id ops true).wp P Q a w :=
  start_ (Array.replicate n false) hm hn rfl hS fun h1 => h h1 ⟨hT⟩ ⟨hB⟩
theorem rP {i u : Nat} {oi : Oper} {v : Value} {fuel n : Nat} {s : List Nat} {r : List (Nat × Nat)} {a : Act} {w : World} (hT : Aside0 (rtab md ops = T)) (hi : ops[i]? = some oi) (hN : oi.dst = some u) (hc : anyT T (lsl n s) ((lsl n s).set i true) i = true)
    (hQ : ∀ c a w, Q (.panic c) (a.put oi.dst v) w → Q (.panic c) a w) (hy : Yields P ops oi v a) {a' : Act} (ha : a.put (some u) v = a') (h : Todo r (wpAnyLast P md ops Q S ds fuel (lst n (i :: s)) a' w)) :
    Todo ((i, u) :: r) (wpAnyLast P md ops Q S ds (fuel + 1) (lst n s) a w) :=
  pure_ (lst n (i :: s)) hi hN (any_of hT.out (by rw [lst_l, lst_l]; exact hc)) hQ hy ha h
theorem rT {i u : Nat} {oi : Oper} {v : Value} {fuel n : Nat} {s : List Nat} {r : List (Nat × Nat)} {a : Act} {w : World} (hT : Aside0 (rtab md ops = T)) (hB : Aside0 (waitsOk T.2 B = true)) (hS : S w) (hi : ops[i]? = some oi) (hN : oi.dst = some u) (hc : takeW T B ds (lsl n s) ((lsl n s).set i true) i = true)
    (hQ : ∀ c a w, Q (.panic c) (a.put oi.dst v) w → Q (.panic c) a w) (hy : YieldsIf P ops S oi v a) {a' : Act} (ha : a.put (some u) v = a') (h : Todo r (wpAnyLast P md ops Q S ds fuel (lst n (i :: s)) a' w)) :
    Todo ((i, u) :: r) (wpAnyLast P md ops Q S ds (fuel + 1) (lst n s) a w) :=
  take_ (lst n (i :: s)) hi hN (take_ofW hT.out hB.out (by rw [lst_l, lst_l]; exact hc)) hQ hy hS ha h
theorem rO {i u : Nat} {N : Option Tmp} {oi : Oper} {fuel n : Nat} {s : List Nat} {r : List (Nat × Nat)} {a : Act} {w : World} (hT : Aside0 (rtab md ops = T)) (hi : ops[i]? = some oi) (hN : oi.dst = N) (hc : (readyT T.2 (lsl n s) == [i]) = true) (hd : i ∉ ds)
    (h : ∀ K : Act → World → Prop, Shut (∀ a' w', S w' → (S w' → Todo r (wpAnyLast P md ops Q S ds fuel (lst n (i :: s)) a' w')) → K a' w') → if Region.wanted oi (yielded ops a.tmps) = true then Oper.wp P oi a w K Q else K (a.put N undef) w) :
    Todo ((i, u) :: r) (wpAnyLast P md ops Q S ds (fuel + 1) (lst n s) a w) :=
  one_ (lst n (i :: s)) hi hN (one_of hT.out (by rw [lst_l, lst_l, hc]; show (true && ((lsl n s).set i true == (lsl n s).set i true)) = true; simp)) hd h
theorem rL {i u : Nat} {N : Option Tmp} {oi : Oper} {fuel n : Nat} {s : List Nat} {r : List (Nat × Nat)} {a : Act} {w : World} (hT : Aside0 (rtab md ops = T)) (hi : ops[i]? = some oi) (hN : oi.dst = N) (hc : (readyT T.2 (lsl n s) == [i]) = true) (hd : i ∈ ds)
    (h : ∀ K : Act → World → Prop, Shut (∀ a' w', Todo r (wpAnyLast P md ops Q S ds fuel (lst n (i :: s)) a' w') → K a' w') → if Region.wanted oi (yielded ops a.tmps) = true then Oper.wp P oi a w K Q else K (a.put N undef) w) :
    Todo ((i, u) :: r) (wpAnyLast P md ops Q S ds (fuel + 1) (lst n s) a w) :=
  last_ (lst n (i :: s)) hi hN (one_of hT.out (by rw [lst_l, lst_l, hc]; show (true && ((lsl n s).set i true == (lsl n s).set i true)) = true; simp)) hd h
theorem rD {s : List Nat} {a : Act} {w : World} {k n : Nat} (hT : Aside0 (rtab md ops = T)) (hc : (readyT T.2 (lsl n s) == []) = true) (h : Q .normal a w) : Todo [] (wpAnyLast P md ops Q S ds k (lst n s) a w) :=
  done_ (done_of hT.out (by rw [lst_l]; exact hc)) h
theorem rN {r : List (Nat × Nat)} {fuel : Nat} {l : Array Bool} {a a' : Act} {w : World} (ha : a = a') (h : Todo r (wpAnyLast P md ops Q S ds fuel l a' w)) : Todo r (wpAnyLast P md ops Q S ds fuel l a w) := norm_ ha h
end
/-- All steps that only yield. -/
theorem rR {p q : Prop} (hq : q) (h : q → p := by
  intro hq_
  repeat first
    | (refine rP HT_ rfl rfl (by kernel_rfl) hh (Or.inl ⟨by rfl, by intro w'; go_simp; with_reducible rfl⟩) (by simp only [Act.put, q1, q2, q3, i64_w, i32_w]; rfl) ?_)
    | (refine rP (v := undef) HT_ rfl rfl (by kernel_rfl) hh (Or.inr ⟨by rfl, rfl⟩) (by simp only [Act.put, q1, q2, q3, i64_w, i32_w]; rfl) ?_)
    | (refine rT HT_ HW_ hHeld rfl rfl (by kernel_rfl) hh (Or.inl ⟨by rfl, by intro w' hs; (repeat (have s_ := hs.1; replace hs := hs.2)); go_simp; with_reducible rfl⟩) (by simp only [Act.put, q1, q2, q3, i64_w, i32_w]; rfl) ?_)
  exact hq_) : p := h hq
theorem d0 {p : Prop} (h : p := by repeat (first|(with_reducible first|exact HB.out|apply pa|apply pb|apply pd)|exact HB.out)) : p := h
theorem d1 {p : Prop} (h : p := by first|(with_reducible assumption)|assumption) : p := h
theorem d2 {p : Prop} (h : p := by first|rfl|(simp;done)|(simp [*];done)) : p := h
theorem d3 {p : Prop} (h : p := by kernel_rfl) : p := h
theorem d4 {p : Prop} (h : p := by first|rfl|(simp [errW_none,errW_some] <;> rfl)|(simp [*,errW_none,errW_some] <;> rfl)) : p := h
theorem d5 {p : Prop} (h : p := by (try simp only [q4,q5,q6]);first|done|rfl|(simp only [q7,q8];rfl)) : p := h
theorem d6 {p : Prop} (h : p := by (with_reducible repeat (first|apply Kd.R_alloc|apply Kd.R_drewN|apply Kd.R_drew));exact HO_9.out) : p := h
theorem d7 {p : Prop} (h : p := by (with_reducible repeat (first|apply Kd.S_alloc|apply Kd.S_drewN|apply Kd.S_drew));exact HO_7.out) : p := h
theorem d8 {p : Prop} (h : p := by (with_reducible repeat (first|apply Kd.S_alloc|apply Kd.S_drewN|apply Kd.S_drew));exact HO_8.out) : p := h
theorem d9 {p : Prop} (h : p := by (with_reducible repeat (first|apply Kd.R_alloc|apply Kd.R_drewN|apply Kd.R_drew));exact HO_12.out) : p := h
theorem d10 {p : Prop} (h : p := by omega) : p := h
theorem d11 {p : Prop} (h : p := by decide) : p := h
theorem d12 {p : Prop} (h : p := by repeat (first|exact Drawn0.refl _|apply Drawn0.step)) : p := h
theorem d13 {p : Prop} (h : p := by (with_reducible repeat (first|apply Kd.R_alloc|apply Kd.R_drewN|apply Kd.R_drew));exact HO_7.out) : p := h
theorem d14 {p : Prop} (h : p := by (with_reducible repeat (first|apply Kd.R_alloc|apply Kd.R_drewN|apply Kd.R_drew));exact (Kd.R_mono (Kd.R_far (p:=⟨gb395,1,none⟩) (Kd.R_far (p:=⟨gb395,0,none⟩) (Kd.R_types HO_9.out BK395.out d11) (fun _ hk=>hk.2) (.int .i64 ((rd_T69 y386 x60_3).f0))) (fun _ hk=>hk.2) (.slice A394_1 ((rd_T69 y386 x60_3).f1).length c394_1)) (fun _ h_=>h_.1))) : p := h
theorem d15 {p : Prop} (h : p := by (with_reducible repeat (first|apply Kd.N_alloc|apply Kd.N_drewN|apply Kd.N_drew));exact HO_260000.out) : p := h
theorem d16 {p : Prop} (h : p := by first|exact Kd.R_nil _ _ _ _ _|exact Kd.N_nil _ _ _ _ _|exact Kd.V_nil _ _ _ _ _|exact Kd.Q_nil _ _ _ _ _|exact Kd.S_nil _ _ _ _ _) : p := h
theorem d17 {p : Prop} (h : p := by (with_reducible repeat (first|apply Kd.R_alloc|apply Kd.R_drewN|apply Kd.R_drew));exact HO_79.out) : p := h
theorem d18 {p : Prop} (h : p := by rfl) : p := h
theorem d19 {p : Prop} (h : p := by (with_reducible repeat (first|apply Kd.R_alloc|apply Kd.R_drewN|apply Kd.R_drew));exact HO_5.out) : p := h
theorem d20 {p : Prop} (h : p := by simp) : p := h
theorem d21 {p : Prop} (h : p := by (with_reducible repeat (first|apply Kd.S_alloc|apply Kd.S_drewN|apply Kd.S_drew));exact HO_6.out) : p := h
theorem d22 {p : Prop} (h : p := by (try simp only [q4,q5,q6]);first|done|rfl|(go_simp;done)) : p := h
theorem d23 {p : Prop} (h : p := by (with_reducible repeat (first|apply Kd.N_alloc|apply Kd.N_drewN|apply Kd.N_drew));exact Kd.N_mono (Kd.N_far (p:=⟨gb261,1,none⟩) (Kd.N_far (p:=⟨gb261,0,none⟩) (Kd.N_mono HO_260000.out (fun k_ hk=>(⟨hk,hk.2⟩:_∧k_ ≠ gb261))) (fun _ hk=>hk.2) (.int .i64 ((rd_T69 l1 x25_2).f0))) (fun _ hk=>hk.2) (.slice A260_1 ((rd_T69 l1 x25_2).f1).length c260_1)) (fun _ hk=>⟨hk.1.1.1,⟨hk.1.1.2.1,⟨hk.1.1.2.2,hk.1.2⟩⟩⟩)) : p := h
theorem d24 {p : Prop} (h : p := by (with_reducible repeat (first|apply Kd.R_alloc|apply Kd.R_drewN|apply Kd.R_drew));exact HO183.out) : p := h
theorem d25 {p : Prop} (h : p := by (try simp only [q4,q5,q6]);first|done|rfl|(go_simp;done)|(simp only [q7,q8];rfl)) : p := h
theorem d26 {p : Prop} (h : p := by (with_reducible repeat (first|apply Kd.S_alloc|apply Kd.S_drewN|apply Kd.S_drew));exact (Kd.S_mono (Kd.S_far (p:=⟨gb395,1,none⟩) (Kd.S_far (p:=⟨gb395,0,none⟩) (Kd.S_types HO_8.out BK395.out d11) (fun _ hk=>hk.2) (.int .i64 ((rd_T69 y386 x60_3).f0))) (fun _ hk=>hk.2) (.slice A394_1 ((rd_T69 y386 x60_3).f1).length c394_1)) (fun _ h_=>h_.1))) : p := h
theorem d27 {p : Prop} (h : p := by (with_reducible repeat (first|apply Kd.S_alloc|apply Kd.S_drewN|apply Kd.S_drew));exact (Kd.S_mono (Kd.S_far (p:=⟨gb395,1,none⟩) (Kd.S_far (p:=⟨gb395,0,none⟩) (Kd.S_types HO_7.out BK395.out d11) (fun _ hk=>hk.2) (.int .i64 ((rd_T69 y386 x60_3).f0))) (fun _ hk=>hk.2) (.slice A394_1 ((rd_T69 y386 x60_3).f1).length c394_1)) (fun _ h_=>h_.1))) : p := h
theorem d28 {p : Prop} (h : p := by (with_reducible repeat (first|apply Kd.R_alloc|apply Kd.R_drewN|apply Kd.R_drew));exact HO237.out) : p := h
theorem d29 {p : Prop} (h : p := by (with_reducible repeat (first|apply Kd.R_alloc|apply Kd.R_drewN|apply Kd.R_drew));exact Kd.R_mono (Kd.R_far (p:=⟨gb261,1,none⟩) (Kd.R_far (p:=⟨gb261,0,none⟩) (Kd.R_types HO_7.out BK261.out d11) (fun _ hk=>hk.2) (.int .i64 ((rd_T69 l1 x25_2).f0))) (fun _ hk=>hk.2) (.slice A260_1 ((rd_T69 l1 x25_2).f1).length c260_1)) (fun _ hk=>trivial)) : p := h
theorem d30 {p : Prop} (h : p := by have:=HK1.out;omega) : p := h
theorem d31 {p : Prop} (h : p := by (with_reducible repeat (first|apply Kd.S_alloc|apply Kd.S_drewN|apply Kd.S_drew));exact HO379.out) : p := h
theorem d32 {p : Prop} (h : p := by (with_reducible repeat (first|apply Kd.S_alloc|apply Kd.S_drewN|apply Kd.S_drew));exact HO_3.out) : p := h
theorem d33 {p : Prop} (h : p := by (with_reducible repeat (first|apply Kd.R_alloc|apply Kd.R_drewN|apply Kd.R_drew));exact (Kd.R_mono (Kd.R_far (p:=⟨gb277,0,none⟩) (Kd.R_types HO_7.out BK277.out d11) (fun _ hk=>hk.2) (.slice Ao67 t273.length co67)) (fun _ h_=>h_.1))) : p := h
theorem d34 {p : Prop} (h : p := by (with_reducible repeat (first|apply Kd.S_alloc|apply Kd.S_drewN|apply Kd.S_drew));exact Kd.S_mono HO_8.out (fun k_ hk=>⟨⟨hk.1,⟨hk.2.1,hk.2.2.2⟩⟩,fun e_=>hk.2.2.1 e_⟩)) : p := h
theorem d35 {p : Prop} (h : p := by rw [idM_length];exact HN.out.symm) : p := h
theorem d36 {p : Prop} (h : p := by repeat (first|(with_reducible first|exact HK.out|apply Kept.alloc|apply Kept.drewN|apply Kept.drew)|exact HK.out)) : p := h
theorem d37 {p : Prop} (h : p := by (with_reducible repeat (first|apply Kd.S_alloc|apply Kd.S_drewN|apply Kd.S_drew));exact Kd.S_mono HO_8.out (fun _ hk=>⟨⟨hk.1,⟨hk.2.1,hk.2.2.2⟩⟩,hk.2.2.1⟩)) : p := h
theorem d38 {p : Prop} (h : p := by (with_reducible repeat (first|apply Kd.S_alloc|apply Kd.S_drewN|apply Kd.S_drew));exact Kd.S_mono HO411.out (fun _ hk=>⟨⟨hk.2.1,hk.2.2⟩,hk.1⟩)) : p := h
theorem d39 {p : Prop} (h : p := by (with_reducible repeat (first|apply Kd.R_alloc|apply Kd.R_drewN|apply Kd.R_drew));exact Kd.R_mono HO_9.out (fun _ hk=>⟨⟨hk.1,hk.2.2⟩,hk.2.1⟩)) : p := h
theorem d40 {p : Prop} (h : p := by (with_reducible repeat (first|apply Kd.S_alloc|apply Kd.S_drewN|apply Kd.S_drew));exact HO_217000.out) : p := h
theorem d41 {p : Prop} (h : p := by (with_reducible repeat (first|apply Kd.S_alloc|apply Kd.S_drewN|apply Kd.S_drew));exact HO241.out) : p := h
theorem d42 {p : Prop} (h : p := by (with_reducible repeat (first|apply Kd.R_alloc|apply Kd.R_drewN|apply Kd.R_drew));exact HO189.out) : p := h
theorem d43 {p : Prop} (h : p := by (with_reducible repeat (first|apply Kd.R_alloc|apply Kd.R_drewN|apply Kd.R_drew));exact Kd.R_mono HO_79.out (fun _ hk=>⟨trivial,hk.1⟩)) : p := h
theorem d44 {p : Prop} (h : p := by (with_reducible repeat (first|apply Kd.R_alloc|apply Kd.R_drewN|apply Kd.R_drew));exact Kd.R_mono HO_12.out (fun _ hk=>⟨trivial,hk.1⟩)) : p := h
theorem d45 {p : Prop} (h : p := by (with_reducible repeat (first|apply Kd.R_alloc|apply Kd.R_drewN|apply Kd.R_drew));exact Kd.R_mono HO_9.out (fun _ hk=>⟨hk.1,hk.2.2⟩)) : p := h
theorem d46 {p : Prop} (h : p := by rw [← HN.out];exact hn2) : p := h
theorem d47 {p : Prop} (h : p := by rw [← HN.out];exact hn1) : p := h
theorem d48 {p : Prop} (h : p := by rw [← HN.out];exact hc0) : p := h
theorem d49 {p : Prop} (h : p := by rw [idM_length];exact hIc) : p := h
theorem d50 {p : Prop} (h : p := by (with_reducible repeat (first|apply Kd.N_alloc|apply Kd.N_drewN|apply Kd.N_drew));exact (Kd.N_mono (Kd.N_far (p:=⟨gb277,0,none⟩) (Kd.N_mono HO275.out (fun k_ hk=>(⟨hk,hk.2⟩:_∧k_ ≠ gb277))) (fun _ hk=>hk.2) (.slice Ao67 t273.length co67)) (fun _ h_=>h_.1))) : p := h
theorem d51 {p : Prop} (h : p := by first|exact Kd.S_nil _ _ _ _ _|exact Kd.N_nil _ _ _ _ _|exact Kd.V_nil _ _ _ _ _|exact Kd.Q_nil _ _ _ _ _|exact Kd.R_nil _ _ _ _ _) : p := h
theorem d52 {p : Prop} (h : p := by (with_reducible repeat (first|apply Kd.R_alloc|apply Kd.R_drewN|apply Kd.R_drew));exact HL405_0.out) : p := h
theorem d53 {p : Prop} (h : p := by (with_reducible repeat (first|apply Kd.S_alloc|apply Kd.S_drewN|apply Kd.S_drew));exact HO_204000.out) : p := h
theorem d54 {p : Prop} (h : p := by (with_reducible repeat (first|apply Kd.S_alloc|apply Kd.S_drewN|apply Kd.S_drew));exact HO382.out) : p := h
theorem d55 {p : Prop} (h : p := by (with_reducible repeat (first|apply Kd.S_alloc|apply Kd.S_drewN|apply Kd.S_drew));exact HO202.out) : p := h
theorem d56 {p : Prop} (h : p := by have:=HK1.out;have:=HK2.out;have:=HK3.out;omega) : p := h
theorem d57 {p : Prop} (h : p := by have:=hk.2;omega) : p := h
theorem d58 {p : Prop} (h : p := by have:=hk.1;omega) : p := h
theorem d59 {p : Prop} (h : p := by rw [e_];rfl) : p := h
theorem d60 {p : Prop} (h : p := by (try simp only [hl24_2]);(try simp only [hl24_3]);(with_reducible repeat (first|apply Kd.R_alloc|apply Kd.R_drewN|apply Kd.R_drew));exact HO_24.out) : p := h
theorem d61 {p : Prop} (h : p := by (try simp only [hl24_2]);(try simp only [hl24_3]);(with_reducible repeat (first|apply Kd.S_alloc|apply Kd.S_drewN|apply Kd.S_drew));exact HO_4.out) : p := h
theorem d62 {p : Prop} (h : p := by simp [Value.ownBlock]) : p := h
theorem d63 {p : Prop} (h : p := by first|exact Kd.N_base ho0|exact Kd.S_base ho0|exact Kd.R_base ho0) : p := h
theorem d64 {p : Prop} (h : p := by first|omega|exact Nat.le_refl _) : p := h
theorem d65 {p : Prop} (h : p := by (try simp only [hl6_1]);(with_reducible repeat (first|apply Kd.S_alloc|apply Kd.S_drewN|apply Kd.S_drew));exact HO_6.out) : p := h
theorem d66 {p : Prop} (h : p := by have:=HJ2.out;have:=HK2.out;first|omega|exact Nat.le_refl _) : p := h
end Go.Proofs.Ytajikfnpcobnpaa.PFnExactDecodeMsr
-- SQUEEZED
-- SQUEEZED2
-- SQUEEZED3
-- SQUEEZED4
-- SQUEEZED5
-- SQUEEZED6
