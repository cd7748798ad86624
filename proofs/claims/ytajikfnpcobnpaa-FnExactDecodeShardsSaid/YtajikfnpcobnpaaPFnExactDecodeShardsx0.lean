-- Laid by a program of this session.
import Derived.Test.YtajikfnpcobnpaaProg
import Derived.Below
import Derived.Deep.Draws
import Derived.Deep.AppendLies
import Derived.Maps.AppendAt
import Derived.OwnWalk
import Derived.Laws.BytesArg
import Derived.Laws.MakeOwn
import Derived.Laws.OwnMore
import Derived.Deep.OwnRows
import Derived.Tactics
import Derived.Lib.ConvBytes
import Derived.Laws.Slices
import Derived.WalkKit
import Derived.KernelRfl
import Derived.RowKit3
import Derived.Deep.LoopGhost
import Derived.Deep.QuietTactic
import Derived.BigQuiet
import Derived.WideLaws
import Derived.Deep.DeepCutAuto
import Derived.Deep.CutBlock
import Derived.Deep.RegionHeld3
import Derived.Laws.Rows
import Derived.Lib.AppendStr
import Derived.ArgAppend
import Derived.Laws.IdiomCopy
import Derived.OrdersHeld
import Derived.Laws.BitsLemmas
import Derived.Shelf.Abstract
import Derived.RowKit
import Derived.Lib.Hide
import Derived.Outline
import Derived.Test.YtajikfnpcobnpaaVDecodeShardsKit
import Derived.Test.YtajikfnpcobnpaaVDecodeShardsKitW
import Derived.Test.YtajikfnpcobnpaaVDecodeShardsKitX
import Derived.Test.YtajikfnpcobnpaaVDecodeShardsKitN
import Derived.Test.YtajikfnpcobnpaaVDecodeShardsWWords
import Derived.Test.YtajikfnpcobnpaaVDecodeShardsWLast
import Derived.Test.YtajikfnpcobnpaaVDecodeShardsWTab
import Derived.Test.YtajikfnpcobnpaaVDecodeShardsWFour
import Derived.Test.YtajikfnpcobnpaaVDecodeShardsWQPut
import Derived.Test.YtajikfnpcobnpaaVDecodeShardsWApart
import Derived.Test.YtajikfnpcobnpaaVDecodeShardsWArr
import Derived.Test.YtajikfnpcobnpaaVDecodeShardsWZeros
import Derived.Test.YtajikfnpcobnpaaVDecodeShardsWFoot
import Derived.Test.YtajikfnpcobnpaaVDecodeShardsWKept
import Derived.Test.YtajikfnpcobnpaaVDecodeShardsWShare
import Derived.Test.YtajikfnpcobnpaaVDecodeShardsWN
import Derived.Test.YtajikfnpcobnpaaVDecodeShardsWFootNe
import Derived.Test.YtajikfnpcobnpaaVDecodeShardsWAt
import Derived.Test.YtajikfnpcobnpaaVDecodeShardsWEqStruct
import Derived.Test.YtajikfnpcobnpaaVDecodeShardsWRepsOne
import Derived.Test.YtajikfnpcobnpaaVDecodeShardsWInv
import Derived.Test.YtajikfnpcobnpaaVDecodeShardsWInvWords
import Derived.Test.YtajikfnpcobnpaaVDecodeShardsWGuard
import Derived.Test.YtajikfnpcobnpaaVDecodeShardsWNEv
import Derived.Test.YtajikfnpcobnpaaVDecodeShardsWMore
namespace Go.Proofs.Ytajikfnpcobnpaa.PFnExactDecodeShards
open Go.RowKit Go.Proofs.YtajikfnpcobnpaaW.PrintWords Go.Proofs.YtajikfnpcobnpaaW.PrintLast Go.Proofs.YtajikfnpcobnpaaW.PrintMore
attribute [local go_sem] max2_int min2_int max_two min_two max_three min_three max_four min_four   -- for this text's walks alone
set_option linter.unusedVariables false
set_option linter.unusedSimpArgs false



def errW : Option Int→Value
  | none=>.nilIface
  | some c=>.iface 0 (.int .i64 c)
theorem errW_none : errW none = .nilIface:=rfl
theorem errW_some (c : Int) : errW (some c) = .iface 0 (.int .i64 c):=rfl

theorem info3 : (Try.prog.info? 3).map (fun i=>(i.zero,i.size,i.bytes))=some (some (.int .i64 0),1,8):=by kernel_rfl
theorem info5 : (Try.prog.info? 5).map (fun i=>(i.zero,i.size,i.bytes))=some (some (.int .u8 0),1,1):=by kernel_rfl
theorem info9 : (Try.prog.info? 9).map (fun i=>(i.zero,i.size,i.bytes))=some (some (.string ⟨#[]⟩),1,16):=by kernel_rfl
theorem info57 : (Try.prog.info? 57).map (fun i=>(i.zero,i.size,i.bytes))=some (some (.slice none 0 0),1,24):=by kernel_rfl
theorem info84 : (Try.prog.info? 84).map (fun i=>(i.zero,i.size,i.bytes))=some (some (.agg #[(.int .i64 0),(.string ⟨#[]⟩)]),2,24):=by kernel_rfl
-- the values' own types
/-! #### struct type 160 -/
structure S160 where
  f0 : Int
  f1 : ByteArray
def z160 : S160:=⟨(0 : Int),(⟨#[]⟩ : ByteArray)⟩
def k160 : Kd S160:=Kd.iso (Kd.pair (Kd.int .i64) Kd.string) (fun x : S160=>(x.f0,x.f1))
theorem k160_open {w : World} {x : S160} {cs : List Value} (h : k160.K w x cs) : cs=[.int .i64 x.f0, .string x.f1]:=by
  obtain ⟨_,_,rfl,rfl,rfl⟩:=h
  exact rfl
theorem k160_openM {w : World} {base : Nat} {ok : Nat→Prop} {x : S160} {cs : List Value} (h : k160.M w base ok x cs) : cs=[.int .i64 x.f0, .string x.f1]:=by
  obtain ⟨_,_,rfl,rfl,rfl⟩:=h
  exact rfl
theorem k160_mk (w : World) (x : S160)  : k160.K w x [.int .i64 x.f0, .string x.f1]:=⟨[.int .i64 x.f0],[.string x.f1],rfl,rfl,rfl⟩
theorem k160_mkM (w : World) (base : Nat) (ok : Nat→Prop) (x : S160)  : k160.M w base ok x [.int .i64 x.f0, .string x.f1]:=⟨[.int .i64 x.f0],[.string x.f1],rfl,rfl,rfl⟩
theorem k160_mkF (W : World) (ok : Nat→Prop) (x : S160) : Kd.FK k160 W ok x [.int .i64 x.f0, .string x.f1]:=fun W2 _=>k160_mk W2 x
def rd_T160 (xs : List S160) (i : Int) : S160:=xs.getD i.toNat z160
theorem at_T160 {w : World} {A : Option Addr} {n : Nat} {xs : List S160} (h : Kd.C k160 w A n xs) (i : Int) (h0 : 0≤i) (h1 : i < n) : ∃ ad ,A=some ad∧w.cell? (ad.add (i.toNat*2))=some (.int .i64 (rd_T160 xs i).f0)∧w.cell? ⟨(ad.add (i.toNat*2)).block,(ad.add (i.toNat*2)).off+1,none⟩=some (.string (rd_T160 xs i).f1):=by
  obtain ⟨ad,c,e,_,hK,hc0⟩:=Kd.C_get h z160 i h0 h1
  have hc : ∀ j u,c[j]? = some u→w.cell? (ad.add (i.toNat*2+j))=some u:=hc0
  obtain rfl:=k160_open hK
  exact ⟨ad,e,hc 0 _ rfl,by rw [← add_field _ _ 1 (by omega)];exact hc 1 _ rfl⟩

/-! #### struct type 84 -/
structure S84 where
  f0 : Int
  f1 : ByteArray
def z84 : S84:=⟨(0 : Int),(⟨#[]⟩ : ByteArray)⟩
def k84 : Kd S84:=Kd.iso (Kd.pair (Kd.int .i64) Kd.string) (fun x : S84=>(x.f0,x.f1))
theorem k84_open {w : World} {x : S84} {cs : List Value} (h : k84.K w x cs) : cs=[.int .i64 x.f0, .string x.f1]:=by
  obtain ⟨_,_,rfl,rfl,rfl⟩:=h
  exact rfl
theorem k84_openM {w : World} {base : Nat} {ok : Nat→Prop} {x : S84} {cs : List Value} (h : k84.M w base ok x cs) : cs=[.int .i64 x.f0, .string x.f1]:=by
  obtain ⟨_,_,rfl,rfl,rfl⟩:=h
  exact rfl
theorem k84_mk (w : World) (x : S84)  : k84.K w x [.int .i64 x.f0, .string x.f1]:=⟨[.int .i64 x.f0],[.string x.f1],rfl,rfl,rfl⟩
theorem k84_mkM (w : World) (base : Nat) (ok : Nat→Prop) (x : S84)  : k84.M w base ok x [.int .i64 x.f0, .string x.f1]:=⟨[.int .i64 x.f0],[.string x.f1],rfl,rfl,rfl⟩
theorem k84_mkF (W : World) (ok : Nat→Prop) (x : S84) : Kd.FK k84 W ok x [.int .i64 x.f0, .string x.f1]:=fun W2 _=>k84_mk W2 x
def rd_T84 (xs : List S84) (i : Int) : S84:=xs.getD i.toNat z84
theorem at_T84 {w : World} {A : Option Addr} {n : Nat} {xs : List S84} (h : Kd.C k84 w A n xs) (i : Int) (h0 : 0≤i) (h1 : i < n) : ∃ ad ,A=some ad∧w.cell? (ad.add (i.toNat*2))=some (.int .i64 (rd_T84 xs i).f0)∧w.cell? ⟨(ad.add (i.toNat*2)).block,(ad.add (i.toNat*2)).off+1,none⟩=some (.string (rd_T84 xs i).f1):=by
  obtain ⟨ad,c,e,_,hK,hc0⟩:=Kd.C_get h z84 i h0 h1
  have hc : ∀ j u,c[j]? = some u→w.cell? (ad.add (i.toNat*2+j))=some u:=hc0
  obtain rfl:=k84_open hK
  exact ⟨ad,e,hc 0 _ rfl,by rw [← add_field _ _ 1 (by omega)];exact hc 1 _ rfl⟩

def rd_L5 (xs : List (List Int)) (i : Int) : (List Int):=xs.getD i.toNat ([] : List Int)
theorem at_L5 {w : World} {A : Option Addr} {n : Nat} {xs : List (List Int)} (h : Kd.C (Kd.slice 5 (Kd.int .u8)) w A n xs) (i : Int) (h0 : 0≤i) (h1 : i < n) : ∃ ad A0 c0,A=some ad∧w.cell? (ad.add i.toNat)=some (.slice A0 (rd_L5 xs i).length c0)∧(rd_L5 xs i).length≤c0∧(Kd.int .u8).C w A0 (rd_L5 xs i).length (rd_L5 xs i):=by
  obtain ⟨ad,c,e,_,hK,hc0⟩:=Kd.C_get h ([] : List Int) i h0 h1
  have hc : ∀ j u,c[j]? = some u→w.cell? (ad.add (i.toNat*1+j))=some u:=hc0
  obtain ⟨A0,c0,rfl,l0,g0⟩:=hK
  exact ⟨ad,A0,c0,e,by have hq:=hc 0 _ rfl;rwa [Nat.mul_one,Nat.add_zero] at hq,l0,g0⟩

abbrev Y : Bool:=true
abbrev Z : Bool:=false
theorem q1 {α : Type _} (l : List α) (i : Nat) (a : α) : l.toArray.setIfInBounds i a=(l.set i a).toArray:=List.setIfInBounds_toArray ..
theorem q2 {α : Type _} {x : α} {xs : List α} {a : α} : (x :: xs).set 0 a=a :: xs:=rfl
theorem q3 {α : Type _} {x : α} {xs : List α} {i : Nat} {a : α} : (x :: xs).set (i+1) a=x :: xs.set i a:=rfl
theorem am {p : Prop} (h : p) : Aside0 p := Aside0.mk h
theorem pb {B : Nat} {w W : World} (h : Below B w W) (n : Nat) : Below B w (W.drewN n) := pw_below_drewN h n
theorem pd {base : Nat} {w W : World} (h : Below base w W) : Below base w W.drew := below_drew1 h
theorem pa {w W : World} (h : Below w.heap.size w W) (o : Obj) : Below w.heap.size w (W.alloc o) := below_alloc h o
theorem pt {w W : World} {g j : Nat} {v : Value} (h : Below w.heap.size w W) (hg : w.heap.size ≤ g) : Below w.heap.size w (W.setCell ⟨g, j, none⟩ v) := below_set h hg
theorem pz {w W : World} (h : Below w.heap.size w W) : w.heap.size ≤ W.heap.size := below_size h
theorem pu {w W w2 : World} (h : Below w.heap.size w W) (k : Below W.heap.size W w2) : Below w.heap.size w w2 := below_step h k
theorem qn {w : World} {g : Nat} {o : Obj} (h : w.heap[g]? = some o) (n : Nat) : (w.drewN n).heap[g]? = some o := blk_drewN h n
theorem qa {w : World} {g : Nat} {o : Obj} (h : w.heap[g]? = some o) (o' : Obj) : (w.alloc o').heap[g]? = some o := blk_alloc h o'
theorem qd {w : World} {g : Nat} {o : Obj} (h : w.heap[g]? = some o) : w.drew.heap[g]? = some o := blk_drew h
theorem qb {w w1 : World} {g : Nat} {o : Obj} (h : w.heap[g]? = some o) (hb : Below w.heap.size w w1) : w1.heap[g]? = some o := blk_below h hb
theorem hh {a b c : Sort _} {p : a → b → c → Prop} (x : a) (y : b) (z : c) (h : p x y z) : p x y z := h
theorem q4 {α β : Type _} {f : α → β} {l : List α} : l.toArray.map f = (l.map f).toArray := List.map_toArray ..
theorem q5 {α β : Type _} {f : α → β} {a : α} {l : List α} : (a :: l).map f = f a :: l.map f := rfl
theorem q6 {α β : Type _} {f : α → β} : ([] : List α).map f = [] := rfl
theorem q7 {α : Type _} {i : Nat} {l : List α} : (l.drop i).length = l.length - i := List.length_drop ..
theorem q8 {α : Type _} {i : Nat} {l : List α} : (l.take i).length = min i l.length := List.length_take ..
theorem od {p : Prop} [Decidable p] (e : decide p = true) : p := of_decide_eq_true e
end Go.Proofs.Ytajikfnpcobnpaa.PFnExactDecodeShards
-- SQUEEZED
-- SQUEEZED2
-- SQUEEZED3
