import Derived.Test.YtajikfnpcobnpaaVDecodeLocalB
import Derived.Test.YtajikfnpcobnpaaProg
import Derived.Below
import Derived.Deep.Draws
import Derived.Deep.AppendLies
import Derived.Maps.AppendAt
import Derived.OwnWalk
import Derived.Laws.BytesArg
import Derived.Laws.MakeOwn
import Derived.Laws.OwnMore
import Derived.Deep.OwnRows
import Derived.Tactics
import Derived.Lib.ConvBytes
import Derived.Laws.Slices
import Derived.WalkKit
import Derived.KernelRfl
import Derived.RowKit3
import Derived.Deep.LoopGhost
import Derived.Deep.QuietTactic
import Derived.BigQuiet
import Derived.WideLaws
import Derived.Deep.DeepCutAuto
import Derived.Deep.CutBlock
import Derived.Deep.RegionHeld3
import Derived.Laws.Rows
import Derived.Lib.AppendStr
import Derived.ArgAppend
import Derived.Laws.IdiomCopy
import Derived.OrdersHeld
import Derived.Laws.BitsLemmas
import Derived.Shelf.Abstract
import Derived.RowKit
import Derived.Lib.Hide
import Derived.Outline
import Derived.Test.YtajikfnpcobnpaaVDecodeLocalA
namespace Go.Proofs.Ytajikfnpcobnpaa.PFnExactDecodeLocal
open Go.RowKit Go.Proofs.YtajikfnpcobnpaaW.PrintWords Go.Proofs.YtajikfnpcobnpaaW.PrintLast Go.Proofs.YtajikfnpcobnpaaW.PrintMore Go.Proofs.Ytajikfnpcobnpaa.KitS
attribute [local go_sem] max2_int min2_int max_two min_two max_three min_three max_four min_four
set_option linter.unusedVariables false
set_option linter.unusedSimpArgs false
def errW : Option Int→Value
  | none=>.nilIface
  | some c=>.iface 0 (.int .i64 c)
theorem errW_none : errW none = .nilIface:=rfl
theorem errW_some (c : Int) : errW (some c) = .iface 0 (.int .i64 c):=rfl

theorem info3 : (Try.prog.info? 3).map (fun i=>(i.zero,i.size,i.bytes))=some (some (.int .i64 0),1,8):=by kernel_rfl
theorem info5 : (Try.prog.info? 5).map (fun i=>(i.zero,i.size,i.bytes))=some (some (.int .u8 0),1,1):=by kernel_rfl
theorem info9 : (Try.prog.info? 9).map (fun i=>(i.zero,i.size,i.bytes))=some (some (.string ⟨#[]⟩),1,16):=by kernel_rfl
theorem info57 : (Try.prog.info? 57).map (fun i=>(i.zero,i.size,i.bytes))=some (some (.slice none 0 0),1,24):=by kernel_rfl
theorem info84 : (Try.prog.info? 84).map (fun i=>(i.zero,i.size,i.bytes))=some (some (.agg #[(.int .i64 0),(.string ⟨#[]⟩)]),2,24):=by kernel_rfl
def rd_L1 (xs : List (List Int)) (i : Int) : (List Int):=xs.getD i.toNat ([] : List Int)
theorem at_L1 {w : World} {A : Option Addr} {n : Nat} {xs : List (List Int)} (h : Kd.C (Kd.slice 5 (Kd.int .u8)) w A n xs) (i : Int) (h0 : 0≤i) (h1 : i < n) : ∃ ad A0 c0,A=some ad∧w.cell? (ad.add i.toNat)=some (.slice A0 (rd_L1 xs i).length c0)∧(rd_L1 xs i).length≤c0∧(Kd.int .u8).C w A0 (rd_L1 xs i).length (rd_L1 xs i):=by
  obtain ⟨ad,c,e,_,hK,hc0⟩:=Kd.C_get h ([] : List Int) i h0 h1
  have hc : ∀ j u,c[j]? = some u→w.cell? (ad.add (i.toNat*1+j))=some u:=hc0
  obtain ⟨A0,c0,rfl,l0,g0⟩:=hK
  exact ⟨ad,A0,c0,e,by have hq:=hc 0 _ rfl;rwa [Nat.mul_one,Nat.add_zero] at hq,l0,g0⟩

/-! #### struct type 160 -/
structure S160 where
  f0 : Int
  f1 : ByteArray
def z160 : S160:=⟨(0 : Int),(⟨#[]⟩ : ByteArray)⟩
def k160 : Kd S160:=Kd.iso (Kd.pair (Kd.int .i64) Kd.string) (fun x : S160=>(x.f0,x.f1))
theorem k160_open {w : World} {x : S160} {cs : List Value} (h : k160.K w x cs) : cs=[.int .i64 x.f0, .string x.f1]:=by
  obtain ⟨_,_,rfl,rfl,rfl⟩:=h
  exact rfl
theorem k160_openM {w : World} {base : Nat} {ok : Nat→Prop} {x : S160} {cs : List Value} (h : k160.M w base ok x cs) : cs=[.int .i64 x.f0, .string x.f1]:=by
  obtain ⟨_,_,rfl,rfl,rfl⟩:=h
  exact rfl
theorem k160_mk (w : World) (x : S160)  : k160.K w x [.int .i64 x.f0, .string x.f1]:=⟨[.int .i64 x.f0],[.string x.f1],rfl,rfl,rfl⟩
theorem k160_mkM (w : World) (base : Nat) (ok : Nat→Prop) (x : S160)  : k160.M w base ok x [.int .i64 x.f0, .string x.f1]:=⟨[.int .i64 x.f0],[.string x.f1],rfl,rfl,rfl⟩
theorem k160_mkF (W : World) (ok : Nat→Prop) (x : S160) : Kd.FK k160 W ok x [.int .i64 x.f0, .string x.f1]:=fun W2 _=>k160_mk W2 x
def rd_T160 (xs : List S160) (i : Int) : S160:=xs.getD i.toNat z160
theorem at_T160 {w : World} {A : Option Addr} {n : Nat} {xs : List S160} (h : Kd.C k160 w A n xs) (i : Int) (h0 : 0≤i) (h1 : i < n) : ∃ ad ,A=some ad∧w.cell? (ad.add (i.toNat*2))=some (.int .i64 (rd_T160 xs i).f0)∧w.cell? ⟨(ad.add (i.toNat*2)).block,(ad.add (i.toNat*2)).off+1,none⟩=some (.string (rd_T160 xs i).f1):=by
  obtain ⟨ad,c,e,_,hK,hc0⟩:=Kd.C_get h z160 i h0 h1
  have hc : ∀ j u,c[j]? = some u→w.cell? (ad.add (i.toNat*2+j))=some u:=hc0
  obtain rfl:=k160_open hK
  exact ⟨ad,e,hc 0 _ rfl,by rw [← add_field _ _ 1 (by omega)];exact hc 1 _ rfl⟩

/-! #### struct type 84 -/
structure S84 where
  f0 : Int
  f1 : ByteArray
def z84 : S84:=⟨(0 : Int),(⟨#[]⟩ : ByteArray)⟩
def k84 : Kd S84:=Kd.iso (Kd.pair (Kd.int .i64) Kd.string) (fun x : S84=>(x.f0,x.f1))
theorem k84_open {w : World} {x : S84} {cs : List Value} (h : k84.K w x cs) : cs=[.int .i64 x.f0, .string x.f1]:=by
  obtain ⟨_,_,rfl,rfl,rfl⟩:=h
  exact rfl
theorem k84_openM {w : World} {base : Nat} {ok : Nat→Prop} {x : S84} {cs : List Value} (h : k84.M w base ok x cs) : cs=[.int .i64 x.f0, .string x.f1]:=by
  obtain ⟨_,_,rfl,rfl,rfl⟩:=h
  exact rfl
theorem k84_mk (w : World) (x : S84)  : k84.K w x [.int .i64 x.f0, .string x.f1]:=⟨[.int .i64 x.f0],[.string x.f1],rfl,rfl,rfl⟩
theorem k84_mkM (w : World) (base : Nat) (ok : Nat→Prop) (x : S84)  : k84.M w base ok x [.int .i64 x.f0, .string x.f1]:=⟨[.int .i64 x.f0],[.string x.f1],rfl,rfl,rfl⟩
theorem k84_mkF (W : World) (ok : Nat→Prop) (x : S84) : Kd.FK k84 W ok x [.int .i64 x.f0, .string x.f1]:=fun W2 _=>k84_mk W2 x
def rd_T84 (xs : List S84) (i : Int) : S84:=xs.getD i.toNat z84
theorem at_T84 {w : World} {A : Option Addr} {n : Nat} {xs : List S84} (h : Kd.C k84 w A n xs) (i : Int) (h0 : 0≤i) (h1 : i < n) : ∃ ad ,A=some ad∧w.cell? (ad.add (i.toNat*2))=some (.int .i64 (rd_T84 xs i).f0)∧w.cell? ⟨(ad.add (i.toNat*2)).block,(ad.add (i.toNat*2)).off+1,none⟩=some (.string (rd_T84 xs i).f1):=by
  obtain ⟨ad,c,e,_,hK,hc0⟩:=Kd.C_get h z84 i h0 h1
  have hc : ∀ j u,c[j]? = some u→w.cell? (ad.add (i.toNat*2+j))=some u:=hc0
  obtain rfl:=k84_open hK
  exact ⟨ad,e,hc 0 _ rfl,by rw [← add_field _ _ 1 (by omega)];exact hc 1 _ rfl⟩

/-- A function's value with more rounds: the steps of the proof. -/
theorem mm {p : Prop} (h : p:=by repeat' first | (with_reducible exact ih0 ..) | (with_reducible exact ih1 ..) | (with_reducible exact ih2 ..) | (with_reducible exact ih3 ..) | (with_reducible exact ih4 ..) | (with_reducible exact ih5 ..) | (with_reducible exact ih6 ..) | (with_reducible exact ih7 ..) | (with_reducible exact LeO.refl _) | (with_reducible exact LeO.none _) | (with_reducible refine LeO.ite ?_ ?_) | (with_reducible refine LeO.bind ?_ (fun _=>?_)) | (with_reducible exact impl_DecodeLocal.mono ..) | (with_reducible exact impl_Inverse.mono ..) | (with_reducible exact impl_Times.mono ..) | (with_reducible exact impl_added.mono ..) | (with_reducible exact impl_areShards.mono ..) | (with_reducible exact impl_cauchy.mono ..) | (with_reducible exact impl_combined.mono ..) | (with_reducible exact impl_decoded.mono ..) | (with_reducible exact impl_identity.mono ..) | (with_reducible exact impl_isIncreasing.mono ..) | (with_reducible exact impl_localRows.mono ..) | (with_reducible exact impl_power.mono ..) | (with_reducible exact impl_scaled.mono ..) | (with_reducible exact impl_sumOf.mono ..) | (with_reducible exact impl_timesOf.mono ..) | (with_reducible exact laws_FnExactDecodeLocal.mono ..) | (with_reducible exact laws_eqShardS.mono ..) | (with_reducible exact laws_eqStringS.mono ..) | (with_reducible exact laws_heldStringS.mono ..) | (with_reducible exact laws_markShardS.mono ..) | (with_reducible exact laws_markStringS.mono ..) | (with_reducible exact laws_markText.mono ..) | (with_reducible exact laws_szShardS.mono ..) | (with_reducible exact laws_toShardS.mono ..) | (with_reducible exact spec_DecodeLocal.mono ..) | (with_reducible exact spec_l1Add.mono ..) | (with_reducible exact spec_l1Inverse.mono ..) | (with_reducible exact spec_l1Power.mono ..) | (with_reducible exact spec_l1Scale.mono ..) | (with_reducible exact spec_l1Times.mono ..) | (with_reducible exact spec_l2Blank.mono ..) | (with_reducible exact spec_l2Cauchy.mono ..) | (with_reducible exact spec_l2Identity.mono ..) | (with_reducible exact spec_l2Own.mono ..) | (with_reducible exact spec_l2Part.mono ..) | (with_reducible exact spec_l3All.mono ..) | (with_reducible exact spec_l3Rows.mono ..) | (with_reducible exact spec_l3Shards.mono ..) | (with_reducible exact spec_l4Matrix.mono ..) | exact ih0 .. | exact ih1 .. | exact ih2 .. | exact ih3 .. | exact ih4 .. | exact ih5 .. | exact ih6 .. | exact ih7 .. | exact LeO.none _ | refine LeO.ite ?_ ?_ | refine LeO.bind ?_ (fun _=>?_)) : p:=h
abbrev Y : Bool:=true
abbrev Z : Bool:=false
theorem q1 {α : Type _} (l : List α) (i : Nat) (a : α) : l.toArray.setIfInBounds i a=(l.set i a).toArray:=List.setIfInBounds_toArray ..
theorem q2 {α : Type _} {x : α} {xs : List α} {a : α} : (x :: xs).set 0 a=a :: xs:=rfl
theorem q3 {α : Type _} {x : α} {xs : List α} {i : Nat} {a : α} : (x :: xs).set (i+1) a=x :: xs.set i a:=rfl
theorem am {p : Prop} (h : p) : Aside0 p := Aside0.mk h
theorem pb {B : Nat} {w W : World} (h : Below B w W) (n : Nat) : Below B w (W.drewN n) := pw_below_drewN h n
theorem pd {base : Nat} {w W : World} (h : Below base w W) : Below base w W.drew := below_drew1 h
theorem pa {w W : World} (h : Below w.heap.size w W) (o : Obj) : Below w.heap.size w (W.alloc o) := below_alloc h o
theorem pt {w W : World} {g j : Nat} {v : Value} (h : Below w.heap.size w W) (hg : w.heap.size ≤ g) : Below w.heap.size w (W.setCell ⟨g, j, none⟩ v) := below_set h hg
theorem pz {w W : World} (h : Below w.heap.size w W) : w.heap.size ≤ W.heap.size := below_size h
theorem pu {w W w2 : World} (h : Below w.heap.size w W) (k : Below W.heap.size W w2) : Below w.heap.size w w2 := below_step h k
theorem qn {w : World} {g : Nat} {o : Obj} (h : w.heap[g]? = some o) (n : Nat) : (w.drewN n).heap[g]? = some o := blk_drewN h n
theorem qa {w : World} {g : Nat} {o : Obj} (h : w.heap[g]? = some o) (o' : Obj) : (w.alloc o').heap[g]? = some o := blk_alloc h o'
theorem qd {w : World} {g : Nat} {o : Obj} (h : w.heap[g]? = some o) : w.drew.heap[g]? = some o := blk_drew h
theorem qb {w w1 : World} {g : Nat} {o : Obj} (h : w.heap[g]? = some o) (hb : Below w.heap.size w w1) : w1.heap[g]? = some o := blk_below h hb
theorem hh {a b c : Sort _} {p : a → b → c → Prop} (x : a) (y : b) (z : c) (h : p x y z) : p x y z := h
theorem q4 {α β : Type _} {f : α → β} {l : List α} : l.toArray.map f = (l.map f).toArray := List.map_toArray ..
theorem q5 {α β : Type _} {f : α → β} {a : α} {l : List α} : (a :: l).map f = f a :: l.map f := rfl
theorem q6 {α β : Type _} {f : α → β} : ([] : List α).map f = [] := rfl
theorem q7 {α : Type _} {i : Nat} {l : List α} : (l.drop i).length = l.length - i := List.length_drop ..
theorem q8 {α : Type _} {i : Nat} {l : List α} : (l.take i).length = min i l.length := List.length_take ..
theorem od {p : Prop} [Decidable p] (e : decide p = true) : p := of_decide_eq_true e
section
variable {P : Program} {md : Region.Mode} {ops : Array Oper} {Q : Exit → Act → World → Prop} {S : World → Prop} {ds : List Nat} {T : Bool × List (List Nat × List Nat)} {B : List Nat}
/-- What has come up, the last first. -/
def lst (n : Nat) : List Nat → Array Bool
  | [] => Array.replicate n false
  | i :: s => (lst n s).setIfInBounds i true
def lsl (n : Nat) : List Nat → List Bool
  | [] => List.replicate n false
  | i :: s => (lsl n s).set i true
theorem lst_l (n : Nat) : ∀ s, (lst n s).toList = lsl n s
  | [] => by simp [lst, lsl]
  | i :: s => by simp [lst, lsl, lst_l n s]
/-- What comes next, in this order. -/
def Todo (r : List (Nat × Nat)) (p : Prop) : Prop := p
theorem rS {id n : Nat} {a : Act} {w : World} (r : List (Nat × Nat)) (hn : ops.size = n) (hm : P.follows .mixedOrders = true) (hT : rtab .any ops = T) (hB : waitsOk T.2 B = true) (hS : S w.drew)
    (h : S w.drew → Aside0 (rtab .any ops = T) → Aside0 (waitsOk T.2 B = true) → Todo r (wpAnyLast P .any ops Q S ds n (lst n []) a w.drew)) : (Code.region id ops true).wp P Q a w :=
  start_ (Array.replicate n false) hm hn rfl hS fun h1 => h h1 ⟨hT⟩ ⟨hB⟩
theorem waits0 (T : List (List Nat × List Nat)) : waitsOk T [] = true := by
  unfold waitsOk
  rw [List.all_eq_true]
  intro d hd
  have hl : d < T.length := by simpa using hd
  rw [List.getElem?_eq_getElem hl]
  simp
/-- A small region none of whose operations stores: the table is the operations' own. -/
theorem rS0 {id n : Nat} {a : Act} {w : World} (r : List (Nat × Nat)) (hn : ops.size = n) (hm : P.follows .mixedOrders = true) (hS : S w.drew)
    (h : S w.drew → Aside0 (rtab .any ops = rtab .any ops) → Aside0 (waitsOk (rtab .any ops).2 [] = true) → Todo r (wpAnyLast P .any ops Q S ds n (lst n []) a w.drew)) : (Code.region id ops true).wp P Q a w :=
  rS r hn hm rfl (waits0 _) hS h
theorem rP {i u : Nat} {oi : Oper} {v : Value} {fuel n : Nat} {s : List Nat} {r : List (Nat × Nat)} {a : Act} {w : World} (hT : Aside0 (rtab md ops = T)) (hi : ops[i]? = some oi) (hN : oi.dst = some u) (hc : anyT T (lsl n s) ((lsl n s).set i true) i = true)
    (hQ : ∀ c a w, Q (.panic c) (a.put oi.dst v) w → Q (.panic c) a w) (hy : Yields P ops oi v a) {a' : Act} (ha : a.put (some u) v = a') (h : Todo r (wpAnyLast P md ops Q S ds fuel (lst n (i :: s)) a' w)) :
    Todo ((i, u) :: r) (wpAnyLast P md ops Q S ds (fuel + 1) (lst n s) a w) :=
  pure_ (lst n (i :: s)) hi hN (any_of hT.out (by rw [lst_l, lst_l]; exact hc)) hQ hy ha h
theorem rT {i u : Nat} {oi : Oper} {v : Value} {fuel n : Nat} {s : List Nat} {r : List (Nat × Nat)} {a : Act} {w : World} (hT : Aside0 (rtab md ops = T)) (hB : Aside0 (waitsOk T.2 B = true)) (hS : S w) (hi : ops[i]? = some oi) (hN : oi.dst = some u) (hc : takeW T B ds (lsl n s) ((lsl n s).set i true) i = true)
    (hQ : ∀ c a w, Q (.panic c) (a.put oi.dst v) w → Q (.panic c) a w) (hy : YieldsIf P ops S oi v a) {a' : Act} (ha : a.put (some u) v = a') (h : Todo r (wpAnyLast P md ops Q S ds fuel (lst n (i :: s)) a' w)) :
    Todo ((i, u) :: r) (wpAnyLast P md ops Q S ds (fuel + 1) (lst n s) a w) :=
  take_ (lst n (i :: s)) hi hN (take_ofW hT.out hB.out (by rw [lst_l, lst_l]; exact hc)) hQ hy hS ha h
theorem rO {i u : Nat} {N : Option Tmp} {oi : Oper} {fuel n : Nat} {s : List Nat} {r : List (Nat × Nat)} {a : Act} {w : World} (hT : Aside0 (rtab md ops = T)) (hi : ops[i]? = some oi) (hN : oi.dst = N) (hc : (readyT T.2 (lsl n s) == [i]) = true) (hd : i ∉ ds)
    (h : ∀ K : Act → World → Prop, Shut (∀ a' w', S w' → (S w' → Todo r (wpAnyLast P md ops Q S ds fuel (lst n (i :: s)) a' w')) → K a' w') → if Region.wanted oi (yielded ops a.tmps) = true then Oper.wp P oi a w K Q else K (a.put N undef) w) :
    Todo ((i, u) :: r) (wpAnyLast P md ops Q S ds (fuel + 1) (lst n s) a w) :=
  one_ (lst n (i :: s)) hi hN (one_of hT.out (by rw [lst_l, lst_l, hc]; show (true && ((lsl n s).set i true == (lsl n s).set i true)) = true; simp)) hd h
theorem rL {i u : Nat} {N : Option Tmp} {oi : Oper} {fuel n : Nat} {s : List Nat} {r : List (Nat × Nat)} {a : Act} {w : World} (hT : Aside0 (rtab md ops = T)) (hi : ops[i]? = some oi) (hN : oi.dst = N) (hc : (readyT T.2 (lsl n s) == [i]) = true) (hd : i ∈ ds)
    (h : ∀ K : Act → World → Prop, Shut (∀ a' w', Todo r (wpAnyLast P md ops Q S ds fuel (lst n (i :: s)) a' w') → K a' w') → if Region.wanted oi (yielded ops a.tmps) = true then Oper.wp P oi a w K Q else K (a.put N undef) w) :
    Todo ((i, u) :: r) (wpAnyLast P md ops Q S ds (fuel + 1) (lst n s) a w) :=
  last_ (lst n (i :: s)) hi hN (one_of hT.out (by rw [lst_l, lst_l, hc]; show (true && ((lsl n s).set i true == (lsl n s).set i true)) = true; simp)) hd h
theorem rD {s : List Nat} {a : Act} {w : World} {k n : Nat} (hT : Aside0 (rtab md ops = T)) (hc : (readyT T.2 (lsl n s) == []) = true) (h : Q .normal a w) : Todo [] (wpAnyLast P md ops Q S ds k (lst n s) a w) :=
  done_ (done_of hT.out (by rw [lst_l]; exact hc)) h
theorem rN {r : List (Nat × Nat)} {fuel : Nat} {l : Array Bool} {a a' : Act} {w : World} (ha : a = a') (h : Todo r (wpAnyLast P md ops Q S ds fuel l a' w)) : Todo r (wpAnyLast P md ops Q S ds fuel l a w) := norm_ ha h
end
/-- All steps that only yield. -/
theorem rR {p q : Prop} (hq : q) (h : q → p := by
  intro hq_
  repeat first
    | (refine rP HT_ rfl rfl (by kernel_rfl) hh (Or.inl ⟨by rfl, by intro w'; go_simp; with_reducible rfl⟩) (by simp only [Act.put, q1, q2, q3, i64_w, i32_w]; rfl) ?_)
    | (refine rP (v := undef) HT_ rfl rfl (by kernel_rfl) hh (Or.inr ⟨by rfl, rfl⟩) (by simp only [Act.put, q1, q2, q3, i64_w, i32_w]; rfl) ?_)
    | (refine rT HT_ HW_ hHeld rfl rfl (by kernel_rfl) hh (Or.inl ⟨by rfl, by intro w' hs; (repeat (have s_ := hs.1; replace hs := hs.2)); go_simp; with_reducible rfl⟩) (by simp only [Act.put, q1, q2, q3, i64_w, i32_w]; rfl) ?_)
  exact hq_) : p := h hq
theorem D0 {p : Prop} (h : p := by first|(with_reducible assumption)|assumption) : p := h
theorem D1 {p : Prop} (h : p := by first|rfl|(simp [errW_none,errW_some] <;> rfl)|(simp [*,errW_none,errW_some] <;> rfl)) : p := h
theorem D2 {p : Prop} (h : p := by first|rfl|(simp;done)|(simp [*];done)) : p := h
theorem D3 {p : Prop} (h : p := by kernel_rfl) : p := h
theorem D4 {p : Prop} (h : p := by decide) : p := h
theorem D5 {p : Prop} (h : p := by omega) : p := h
theorem D6 {p : Prop} (h : p := by repeat (first|exact Drawn0.refl _|apply Drawn0.step)) : p := h
theorem D7 {p : Prop} (h : p := by first|exact Kd.N_base ho0|exact Kd.S_base ho0|exact Kd.R_base ho0) : p := h
theorem D8 {p : Prop} (h : p := by (try simp only [q4,q5,q6]);first|done|rfl|(simp only [q7,q8];rfl)) : p := h
theorem D9 {p : Prop} (h : p := by rw [← hw_];refine sB ?_;refine blk_put (cs:=#[.int .i64 ((rd_T84 l0 x9_1).f0), .string (⟨#[]⟩:ByteArray)]) ?_ 1 _ rfl;refine sB ?_;refine blk_put (cs:=#[.int .i64 0, .string (⟨#[]⟩:ByteArray)]) ?_ 0 _ rfl;exact yB BK260) : p := h
theorem D10 {p : Prop} (h : p := by first|exact Kd.R_nil _ _ _ _ _|exact Kd.N_nil _ _ _ _ _|exact Kd.V_nil _ _ _ _ _|exact Kd.Q_nil _ _ _ _ _|exact Kd.S_nil _ _ _ _ _) : p := h
theorem D11 {p : Prop} (h : p := by rfl) : p := h
theorem D12 {p : Prop} (h : p := by repeat (first|(with_reducible exact HR414_0.out)|(with_reducible refine Kd.C_alloc ?_ _)|(with_reducible refine Kd.C_drewN ?_ _)|(with_reducible refine Kd.C_drew ?_)|exact HR414_0.out)) : p := h
theorem D13 {p : Prop} (h : p := by repeat (first|(with_reducible first|exact HK.out|apply Kept.alloc|apply Kept.drewN|apply Kept.drew)|exact HK.out)) : p := h
theorem D14 {p : Prop} (h : p := by (try simp only [q4,q5,q6]);first|done|rfl|(go_simp;done)|(simp only [q7,q8];rfl)) : p := h
theorem D15 {p : Prop} (h : p := by refine sR ?_;exact Kd.R_mono HO277.out (fun _ hk=>⟨hk.2,hk.1⟩)) : p := h
theorem D16 {p : Prop} (h : p := by first|(go_simp;done)|(go_simp;rfl)) : p := h
theorem D17 {p : Prop} (h : p := by have:=HK1.out;omega) : p := h
theorem D18 {p : Prop} (h : p := by refine sR ?_;exact Kd.R_mono HO280.out (fun _ hk=>⟨hk.2,hk.1⟩)) : p := h
theorem D19 {p : Prop} (h : p := by refine sR ?_;exact Kd.R_mono HO_7.out (fun _ hk=>⟨hk.2,hk.1⟩)) : p := h
theorem D20 {p : Prop} (h : p := by rw [← hw_];refine sR ?_;exact Kd.R_mono (Kd.R_far (p:=⟨gb271,1,none⟩) (Kd.R_far (p:=⟨gb271,0,none⟩) (Kd.R_types HO_8.out BK271.out D4) (fun _ hk=>hk.2) (.int .i64 ((rd_T84 l1 x28_2).f0))) (fun _ hk=>hk.2) (.string ((rd_T84 l1 x28_2).f1))) (fun _ hk=>trivial)) : p := h
theorem D21 {p : Prop} (h : p := by rw [← hw_];refine sR ?_;exact Kd.R_mono (Kd.R_far (p:=⟨gb271,1,none⟩) (Kd.R_far (p:=⟨gb271,0,none⟩) (Kd.R_types HO_7.out BK271.out D4) (fun _ hk=>hk.2) (.int .i64 ((rd_T84 l1 x28_2).f0))) (fun _ hk=>hk.2) (.string ((rd_T84 l1 x28_2).f1))) (fun _ hk=>trivial)) : p := h
theorem D22 {p : Prop} (h : p := by rw [← hw_];refine sB ?_;refine blk_put (cs:=#[.int .i64 ((rd_T84 l1 x28_2).f0), .string (⟨#[]⟩:ByteArray)]) ?_ 1 _ rfl;refine sB ?_;refine blk_put (cs:=#[.int .i64 0, .string (⟨#[]⟩:ByteArray)]) ?_ 0 _ rfl;exact yB BK271) : p := h
theorem D23 {p : Prop} (h : p := by (try simp only [q4,q5,q6]);first|done|rfl|(go_simp;done)) : p := h
theorem D24 {p : Prop} (h : p := by simp only [putAll,Act.put,q1,q2,q3]) : p := h
theorem D25 {p : Prop} (h : p := by exact (Reps.none _ _)) : p := h
theorem D26 {p : Prop} (h : p := by exact (pz (yW HB))) : p := h
theorem D27 {p : Prop} (h : p := by rw [idM_length];exact HN.out.symm) : p := h
theorem D28 {p : Prop} (h : p := by refine sR ?_;exact Kd.R_mono HO280.out (fun _ hk=>⟨hk.1.2,hk.2⟩)) : p := h
theorem D29 {p : Prop} (h : p := by refine sR ?_;exact Kd.R_mono HO274.out (fun _ hk=>⟨hk.1.2,hk.2⟩)) : p := h
theorem D30 {p : Prop} (h : p := by rw [← hw_];refine sN ?_;exact Kd.N_mono (Kd.N_far (p:=⟨gb410,1,none⟩) (Kd.N_far (p:=⟨gb410,0,none⟩) (Kd.N_mono HO_7.out (fun k_ hk=>(⟨hk,hk.2⟩:_∧k_ ≠ gb410))) (fun _ hk=>hk.2) (.int .i64 ((rd_T84 l1 x28_2).f0))) (fun _ hk=>hk.2) (.string ((rd_T84 l1 x28_2).f1))) (fun _ hk=>⟨hk.1.1.1,⟨hk.1.1.2.1,⟨hk.1.1.2.2,hk.1.2⟩⟩⟩)) : p := h
theorem D31 {p : Prop} (h : p := by rw [← hw_];refine sN ?_;exact Kd.N_mono (Kd.N_far (p:=⟨gb410,1,none⟩) (Kd.N_far (p:=⟨gb410,0,none⟩) (Kd.N_mono HO_6.out (fun k_ hk=>(⟨hk,hk.2⟩:_∧k_ ≠ gb410))) (fun _ hk=>hk.2) (.int .i64 ((rd_T84 l1 x28_2).f0))) (fun _ hk=>hk.2) (.string ((rd_T84 l1 x28_2).f1))) (fun _ hk=>⟨hk.1.1.1,⟨hk.1.1.2.1,⟨hk.1.1.2.2,hk.1.2⟩⟩⟩)) : p := h
theorem D32 {p : Prop} (h : p := by refine sR ?_;exact Kd.R_mono HO_7.out (fun _ hk=>⟨hk.1.2,hk.2⟩)) : p := h
theorem D33 {p : Prop} (h : p := by refine sR ?_;exact (Kd.R_mono (Kd.R_far (p:=⟨gb313,0,none⟩) (Kd.R_types HO_8.out BK313.out D4) (fun _ hk=>hk.2) (.slice Ao115 t309.length co115)) (fun _ h_=>h_.1))) : p := h
theorem D34 {p : Prop} (h : p := by exact (fun _ _=>trivial)) : p := h
theorem D35 {p : Prop} (h : p := by repeat (first|exact (Kd.R_reads' HO_9.out).2.2|(with_reducible refine Kd.C_alloc ?_ _)|(with_reducible refine Kd.C_drewN ?_ _)|(with_reducible refine Kd.C_drew ?_))) : p := h
theorem D36 {p : Prop} (h : p := by simp) : p := h
theorem D37 {p : Prop} (h : p := by have:=HK1.out;have:=HK2.out;omega) : p := h
theorem D38 {p : Prop} (h : p := by first|rfl|(simp [errW_none,errW_some] <;> rfl)|(simp only [← hji9];first|rfl|(simp [errW_none,errW_some] <;> rfl))|(simp [*,errW_none,errW_some] <;> rfl)) : p := h
theorem D39 {p : Prop} (h : p := by rw [← hw_];refine sR ?_;exact Kd.R_mono (Kd.R_far (p:=⟨gb410,1,none⟩) (Kd.R_far (p:=⟨gb410,0,none⟩) (Kd.R_mono HO_8.out (fun k_ hk=>(⟨hk,hk.2⟩:_∧k_ ≠ gb410))) (fun _ hk=>hk.2) (.int .i64 ((rd_T84 l1 x28_2).f0))) (fun _ hk=>hk.2) (.string ((rd_T84 l1 x28_2).f1))) (fun _ hk=>hk.1.2)) : p := h
theorem D40 {p : Prop} (h : p := by (try simp only [q4,q5,q6]);first|done|(rw [show t464.length=t451.length from (Kd.R_reads' HO_9.out).1.symm] <;> rfl)|rfl|(simp only [q7,q8];rfl)) : p := h
theorem D41 {p : Prop} (h : p := by rw [← hw_];exact yW HB) : p := h
theorem D42 {p : Prop} (h : p := by rw [← HN.out];exact hn2) : p := h
theorem D43 {p : Prop} (h : p := by rw [← HN.out];exact hn1) : p := h
theorem D44 {p : Prop} (h : p := by rw [← HN.out];exact hc0) : p := h
theorem D45 {p : Prop} (h : p := by rw [idM_length];exact hIc) : p := h
theorem D46 {p : Prop} (h : p := by exact (yW HB)) : p := h
theorem D47 {p : Prop} (h : p := by first|exact Kd.S_nil _ _ _ _ _|exact Kd.N_nil _ _ _ _ _|exact Kd.V_nil _ _ _ _ _|exact Kd.Q_nil _ _ _ _ _|exact Kd.R_nil _ _ _ _ _) : p := h
theorem D48 {p : Prop} (h : p := by rw [← hw_];refine sB ?_;refine blk_put (cs:=#[.int .i64 ((rd_T84 l1 x28_2).f0), .string (⟨#[]⟩:ByteArray)]) ?_ 1 _ rfl;refine sB ?_;refine blk_put (cs:=#[.int .i64 0, .string (⟨#[]⟩:ByteArray)]) ?_ 0 _ rfl;exact yB BK410) : p := h
theorem D49 {p : Prop} (h : p := by rw [show t464.length=t451.length from (Kd.R_reads' HO_9.out).1.symm];exact (Kd.R_reads' HO_9.out).2.1) : p := h
theorem D50 {p : Prop} (h : p := by refine sN ?_;exact (Kd.N_mono (Kd.N_far (p:=⟨gb313,0,none⟩) (Kd.N_mono HO311.out (fun k_ hk=>(⟨hk,hk.2⟩:_∧k_ ≠ gb313))) (fun _ hk=>hk.2) (.slice Ao115 t309.length co115)) (fun _ h_=>h_.1))) : p := h
theorem D51 {p : Prop} (h : p := by refine sV ?_;exact Kd.V_mono HL414_0.out (fun _ hk=>⟨⟨hk.2.2.1,⟨hk.2.2.2.1,⟨hk.2.2.2.2.1,⟨hk.2.1,⟨hk.2.2.2.2.2.1,hk.2.2.2.2.2.2⟩⟩⟩⟩⟩,hk.1⟩)) : p := h
theorem D52 {p : Prop} (h : p := by refine sV ?_;exact Kd.V_mono HL414_0.out (fun _ hk=>⟨hk.2,⟨hk.1.2,⟨hk.1.1.2,⟨hk.1.1.1.1,⟨hk.1.1.1.2.1,⟨hk.1.1.1.2.2.1,hk.1.1.1.2.2.2⟩⟩⟩⟩⟩⟩)) : p := h
theorem D53 {p : Prop} (h : p := by refine sV ?_;exact Kd.V_mono HL414_0.out (fun _ hk=>⟨hk.1.2,⟨hk.2,⟨hk.1.1.2,⟨hk.1.1.1.1,⟨hk.1.1.1.2.1,⟨hk.1.1.1.2.2.1,hk.1.1.1.2.2.2⟩⟩⟩⟩⟩⟩)) : p := h
theorem D54 {p : Prop} (h : p := by simp [Value.ownBlock]) : p := h
theorem D55 {p : Prop} (h : p := by have:=hk.2;omega) : p := h
theorem D56 {p : Prop} (h : p := by have:=hk.1;omega) : p := h
theorem D57 {p : Prop} (h : p := by first|omega|exact Nat.le_refl _) : p := h
theorem D58 {p : Prop} (h : p := by refine sR ?_;exact Kd.R_mono HO280.out (fun _ hk=>⟨hk.2,hk.1.2⟩)) : p := h
theorem D59 {p : Prop} (h : p := by refine sN ?_;exact Kd.N_mono HO417.out (fun _ hk=>⟨⟨hk.2.1,⟨hk.2.2.1,⟨hk.2.2.2.1,⟨hk.2.2.2.2.1,hk.2.2.2.2.2⟩⟩⟩⟩,hk.1⟩)) : p := h
theorem D60 {p : Prop} (h : p := by refine sN ?_;exact Kd.N_mono HO417.out (fun _ hk=>⟨hk.2.2.2.1,⟨hk.1,⟨hk.2.1,⟨hk.2.2.1,⟨hk.2.2.2.2.1,hk.2.2.2.2.2⟩⟩⟩⟩⟩)) : p := h
theorem D61 {p : Prop} (h : p := by refine sN ?_;exact Kd.N_mono HO417.out (fun _ hk=>⟨hk.2,⟨hk.1.1,⟨hk.1.2.1,⟨hk.1.2.2.1,⟨hk.1.2.2.2.1,hk.1.2.2.2.2⟩⟩⟩⟩⟩)) : p := h
theorem D62 {p : Prop} (h : p := by have:=HN.out;omega) : p := h
theorem D63 {p : Prop} (h : p := by refine sN ?_;exact Kd.N_mono HO_7.out (fun _ hk=>⟨⟨hk.2.2.1,⟨hk.2.2.2.1,⟨hk.2.1,⟨hk.2.2.2.2.1,hk.2.2.2.2.2⟩⟩⟩⟩,hk.1⟩)) : p := h
theorem D64 {p : Prop} (h : p := by refine sN ?_;exact Kd.N_mono HO_7.out (fun _ hk=>⟨hk.2,⟨hk.1.2,⟨hk.1.1.1,⟨hk.1.1.2.1,⟨hk.1.1.2.2.1,hk.1.1.2.2.2⟩⟩⟩⟩⟩)) : p := h
theorem D65 {p : Prop} (h : p := by refine sN ?_;exact Kd.N_mono HO_7.out (fun _ hk=>⟨hk.1.2,⟨hk.2,⟨hk.1.1.1,⟨hk.1.1.2.1,⟨hk.1.1.2.2.1,hk.1.1.2.2.2⟩⟩⟩⟩⟩)) : p := h
theorem D66 {p : Prop} (h : p := by refine sN ?_;exact Kd.N_mono HO_6.out (fun _ hk=>⟨⟨hk.2.2.1,⟨hk.2.2.2.1,⟨hk.2.1,⟨hk.2.2.2.2.1,hk.2.2.2.2.2⟩⟩⟩⟩,hk.1⟩)) : p := h
theorem D67 {p : Prop} (h : p := by refine sN ?_;exact Kd.N_mono HO_6.out (fun _ hk=>⟨hk.2,⟨hk.1.2,⟨hk.1.1.1,⟨hk.1.1.2.1,⟨hk.1.1.2.2.1,hk.1.1.2.2.2⟩⟩⟩⟩⟩)) : p := h
theorem D68 {p : Prop} (h : p := by refine sN ?_;exact Kd.N_mono HO_6.out (fun _ hk=>⟨hk.1.2,⟨hk.2,⟨hk.1.1.1,⟨hk.1.1.2.1,⟨hk.1.1.2.2.1,hk.1.1.2.2.2⟩⟩⟩⟩⟩)) : p := h
theorem D69 {p : Prop} (h : p := by refine sR ?_;exact Kd.R_mono HO_7.out (fun _ hk=>⟨hk.2,hk.1.2⟩)) : p := h
theorem D70 {p : Prop} (h : p := by have:=HJ2.out;have:=HK2.out;omega) : p := h
theorem D71 {p : Prop} (h : p := by refine sN ?_;exact Kd.N_mono HO_246000.out (fun _ hk=>⟨hk.1.1,⟨hk.2,⟨hk.1.2.1,⟨hk.1.2.2.1,hk.1.2.2.2⟩⟩⟩⟩)) : p := h
theorem D72 {p : Prop} (h : p := by refine sN ?_;exact Kd.N_mono HO413.out (fun _ hk=>⟨hk.2.2.1,⟨hk.1,⟨hk.2.1,⟨hk.2.2.2.1,hk.2.2.2.2⟩⟩⟩⟩)) : p := h
theorem D73 {p : Prop} (h : p := by refine sN ?_;exact Kd.N_mono HO413.out (fun _ hk=>⟨hk.2,⟨hk.1.1,⟨hk.1.2.1,⟨hk.1.2.2.1,hk.1.2.2.2⟩⟩⟩⟩)) : p := h
theorem D74 {p : Prop} (h : p := by refine sR ?_;exact Kd.R_mono HO274.out (fun _ hk=>hk.2)) : p := h
theorem D75 {p : Prop} (h : p := by exact rfl) : p := h
theorem D76 {p : Prop} (h : p := by refine sN ?_;exact Kd.N_mono HO413.out (fun _ hk=>⟨hk.2.1,⟨hk.2.2.1,⟨hk.2.2.2.1,hk.2.2.2.2⟩⟩⟩)) : p := h
set_option maxHeartbeats 8000000
set_option maxRecDepth 100000
def impl_Times.l0:Nat→Int→Int→Int→Int→Option (Int)
 | 0,_,_,_,_=>none
 | k+1,x1,x5,x6,x7=>if x6 < 8 then (if 0≤x6 then (if (Go.bits .and .u8 (shr .u8 x1 x6) 1)=1 then (if (wrap64 (x7*2)) > 255 then (impl_Times.l0 k x1 (Go.bits .xor .i64 x5 x7) (wrap64 (x6+1)) (Go.bits .xor .i64 (wrap64 (x7*2)) 283)) else (impl_Times.l0 k x1 (Go.bits .xor .i64 x5 x7) (wrap64 (x6+1)) (wrap64 (x7*2)))) else (if (wrap64 (x7*2)) > 255 then (impl_Times.l0 k x1 x5 (wrap64 (x6+1)) (Go.bits .xor .i64 (wrap64 (x7*2)) 283)) else (impl_Times.l0 k x1 x5 (wrap64 (x6+1)) (wrap64 (x7*2))))) else (none)) else (some ((x5) % 256))
def impl_Times.f (k:Nat) (a0:Int) (a1:Int):Option (Int):=impl_Times.l0 k a1 0 0 (wrap64 (a0))
theorem impl_Times.mono_l:∀ k,(∀ y0 y1 y2 y3,LeO (impl_Times.l0 k y0 y1 y2 y3) (impl_Times.l0 (k+1) y0 y1 y2 y3))
 | 0=>fun _ _ _ _ r h=>by simp [impl_Times.l0] at h
 | k+1=>by
  have ih0:=impl_Times.mono_l k
  intro y0 y1 y2 y3
  unfold impl_Times.l0
  exact mm
theorem impl_Times.mono:∀ a0 a1 k,LeO (impl_Times.f k a0 a1) (impl_Times.f (k+1) a0 a1):=by
 intro a0 a1 k
 have ih0:=impl_Times.mono_l k
 unfold impl_Times.f
 exact mm
theorem impl_Times.calls (k:Nat) (a0:Int) (a1:Int) (r:Int) (w:World) (h:impl_Times.f k a0 a1=some r) :
  Calls Try.prog 192 #[.int .u8 a0, .int .u8 a1] w fun e w'=>e = .returned (.int .u8 r)∧Drawn0 w w':=by
 have H:=h
 unfold impl_Times.f at H
 clear h
 have H':=am H
 clear H
 go_enter Try.func192,Try.ntmps192
 go_wp2
 go_loopg [5,6,7] k (fun kq v5 v6 v7 w'=>∃ (x5_1:Int) (x6_1:Int) (x7_1:Int),v5 = .int .i64 x5_1∧v6 = .int .i64 x6_1∧v7 = .int .i64 x7_1∧Aside0 (impl_Times.l0 kq a1 x5_1 x6_1 x7_1=some r)∧Aside0 (kq≤k)∧Drawn0 w w')
 case atStart=>exact ⟨(0),(0),(wrap64 (a0)),D2,D2,D2,H',⟨Nat.le_refl _⟩,D6⟩
 case round =>
  clear H'
  try clear c1
  try clear p2
  obtain ⟨x5_1,x6_1,x7_1,rfl,rfl,rfl,HA,HK1,⟨m1,rfl⟩⟩:=hrel
  cases gk with
  | zero=>exact absurd HA.out (by simp [impl_Times.l0])
  | succ k1 =>
   have H:=HA.out
   clear HA
   simp only [impl_Times.l0] at H
   by_cases c3:x6_1 < 8
   ·rw [if_pos c3] at H
    have c3b0:=decide_eq_true c3
    clear c3
    obtain ⟨c4,H⟩:=yi H
    have c4b0:=eq_true c4
    have c4b1:decide (0≤x6_1)=true:=decide_eq_true c4
    clear c4
    generalize hji5:(shr .u8 a1 x6_1)=ji5 at H
    have hji5_:(a1 / 2 ^ min x6_1.toNat 8)=ji5:=hji5
    have hji5z:x6_1≤8→(a1 / 2 ^ x6_1.toNat)=ji5:=shr_small hji5
    by_cases c6:(Go.bits .and .u8 (ji5) 1)=1
    ·rw [if_pos c6] at H
     have c6b0:((Go.bits .and .u8 (ji5) 1) == 1)=true:=beq_iff_eq.mpr c6
     have c6b1:((Go.bits .and .u8 (ji5) 1) != 1)=false:=bne_eq_false_iff_eq.mpr c6
     clear c6
     by_cases c7:(wrap64 (x7_1*2)) > 255
     ·rw [if_pos c7] at H
      have c7b0:decide (255 < (wrap64 (x7_1*2)))=true:=decide_eq_true c7
      clear c7
      have H':=am H
      clear H
      go_wp2
      go_roundg k1
      case measure=>have:=HK1.out;omega
      case rel=>exact ⟨(Go.bits .xor .i64 x5_1 x7_1),(wrap64 (x6_1+1)),(Go.bits .xor .i64 (wrap64 (x7_1*2)) 283),D2,D2,D2,H',⟨D17⟩,D6⟩
     rw [if_neg c7] at H
     have c7b0:decide (255 < (wrap64 (x7_1*2)))=false:=decide_eq_false c7
     clear c7
     have H':=am H
     clear H
     go_wp2
     go_roundg k1
     case measure=>have:=HK1.out;omega
     case rel=>exact ⟨(Go.bits .xor .i64 x5_1 x7_1),(wrap64 (x6_1+1)),(wrap64 (x7_1*2)),D2,D2,D2,H',⟨D17⟩,D6⟩
    rw [if_neg c6] at H
    have c6b0:((Go.bits .and .u8 (ji5) 1) == 1)=false:=beq_eq_false_iff_ne.mpr c6
    have c6b1:((Go.bits .and .u8 (ji5) 1) != 1)=true:=bne_iff_ne.mpr c6
    by_cases c8:(wrap64 (x7_1*2)) > 255
    ·rw [if_pos c8] at H
     have c8b0:decide (255 < (wrap64 (x7_1*2)))=true:=decide_eq_true c8
     clear c8
     have H':=am H
     clear H
     go_wp2
     go_roundg k1
     case measure=>have:=HK1.out;omega
     case rel=>exact ⟨(x5_1),(wrap64 (x6_1+1)),(Go.bits .xor .i64 (wrap64 (x7_1*2)) 283),D2,D2,D2,H',⟨D17⟩,D6⟩
    rw [if_neg c8] at H
    have c8b0:decide (255 < (wrap64 (x7_1*2)))=false:=decide_eq_false c8
    clear c8
    have H':=am H
    clear H
    go_wp2
    go_roundg k1
    case measure=>have:=HK1.out;omega
    case rel=>exact ⟨(x5_1),(wrap64 (x6_1+1)),(wrap64 (x7_1*2)),D2,D2,D2,H',⟨D17⟩,D6⟩
   rw [if_neg c3] at H
   have c3b0:=decide_eq_false c3
   clear c3
   obtain rfl:=Option.some.inj H
   go_wp2
   go_ret
   exact ⟨D2,D6⟩

def impl_power.l0:Nat→Int→Int→Int→Option (Int)
 | 0,_,_,_=>none
 | k+1,x0,x1,x5=>if x1 > 0 then (if (Go.bits .and .i64 x1 1)=1 then ((impl_Times.f k x5 x0).bind fun t101=>((impl_Times.f k x0 x0).bind fun t102=>(impl_power.l0 k t102 (x1 / 2) t101))) else ((impl_Times.f k x0 x0).bind fun t103=>(impl_power.l0 k t103 (x1 / 2) x5))) else (some x5)
def impl_power.f (k:Nat) (a0:Int) (a1:Int):Option (Int):=impl_power.l0 k a0 a1 1
theorem impl_power.mono_l:∀ k,(∀ y0 y1 y2,LeO (impl_power.l0 k y0 y1 y2) (impl_power.l0 (k+1) y0 y1 y2))
 | 0=>fun _ _ _ r h=>by simp [impl_power.l0] at h
 | k+1=>by
  have ih0:=impl_power.mono_l k
  intro y0 y1 y2
  unfold impl_power.l0
  exact mm
theorem impl_power.mono:∀ a0 a1 k,LeO (impl_power.f k a0 a1) (impl_power.f (k+1) a0 a1):=by
 intro a0 a1 k
 have ih0:=impl_power.mono_l k
 unfold impl_power.f
 exact mm
theorem impl_power.calls (k:Nat) (a0:Int) (a1:Int) (r:Int) (w:World) (h:impl_power.f k a0 a1=some r) :
  Calls Try.prog 180 #[.int .u8 a0, .int .i64 a1] w fun e w'=>e = .returned (.int .u8 r)∧Drawn0 w w':=by
 have H:=h
 unfold impl_power.f at H
 clear h
 have H':=am H
 clear H
 go_enter Try.func180,Try.ntmps180
 go_wp2
 go_loopg [0,1,5] k (fun kq v0 v1 v5 w'=>∃ (x0_1:Int) (x1_1:Int) (x5_1:Int),v0 = .int .u8 x0_1∧v1 = .int .i64 x1_1∧v5 = .int .u8 x5_1∧Aside0 (impl_power.l0 kq x0_1 x1_1 x5_1=some r)∧Aside0 (kq≤k)∧Drawn0 w w')
 case atStart=>exact ⟨(a0),(a1),(1),D2,D2,D2,H',⟨Nat.le_refl _⟩,D6⟩
 case round =>
  clear H'
  try clear c1
  try clear p2
  obtain ⟨x0_1,x1_1,x5_1,rfl,rfl,rfl,HA,HK1,⟨m1,rfl⟩⟩:=hrel
  cases gk with
  | zero=>exact absurd HA.out (by simp [impl_power.l0])
  | succ k1 =>
   have H:=HA.out
   clear HA
   simp only [impl_power.l0] at H
   by_cases c3:x1_1 > 0
   ·rw [if_pos c3] at H
    have c3b0:decide (0 < x1_1)=true:=decide_eq_true c3
    clear c3
    by_cases c4:(Go.bits .and .i64 x1_1 1)=1
    ·rw [if_pos c4] at H
     have c4b0:((Go.bits .and .i64 x1_1 1) == 1)=true:=beq_iff_eq.mpr c4
     have c4b1:((Go.bits .and .i64 x1_1 1) != 1)=false:=bne_eq_false_iff_eq.mpr c4
     clear c4
     obtain ⟨t101,A5,H⟩:=yo H
     obtain ⟨t102,A6,H⟩:=yo H
     have H':=am H
     clear H
     go_wp2_with (first|((with_reducible refine gC 192 ?_);refine gM (some 15) Try.func192 (args:=#[.int .u8 x5_1, .int .u8 x0_1]) (impl_Times.calls k1 x5_1 x0_1 t101 _ A5.out) ?_;rintro e w' ⟨rfl,⟨nd,rfl⟩⟩;refine ⟨_,rfl,?_⟩)|((with_reducible refine gC 192 ?_);refine gM (some 18) Try.func192 (args:=#[.int .u8 x0_1, .int .u8 x0_1]) (impl_Times.calls k1 x0_1 x0_1 t102 _ A6.out) ?_;rintro e w' ⟨rfl,⟨nd,rfl⟩⟩;refine ⟨_,rfl,?_⟩))
     go_roundg k1
     case measure=>have:=HK1.out;omega
     case rel=>exact ⟨(t102),(x1_1 / 2),(t101),D2,D2,D2,H',⟨D17⟩,D6⟩
    rw [if_neg c4] at H
    have c4b0:((Go.bits .and .i64 x1_1 1) == 1)=false:=beq_eq_false_iff_ne.mpr c4
    have c4b1:((Go.bits .and .i64 x1_1 1) != 1)=true:=bne_iff_ne.mpr c4
    obtain ⟨t103,A7,H⟩:=yo H
    have H':=am H
    clear H
    go_wp2_with (first|((with_reducible refine gC 192 ?_);refine gM (some 18) Try.func192 (args:=#[.int .u8 x0_1, .int .u8 x0_1]) (impl_Times.calls k1 x0_1 x0_1 t103 _ A7.out) ?_;rintro e w' ⟨rfl,⟨nd,rfl⟩⟩;refine ⟨_,rfl,?_⟩))
    go_roundg k1
    case measure=>have:=HK1.out;omega
    case rel=>exact ⟨(t103),(x1_1 / 2),(x5_1),D2,D2,D2,H',⟨D17⟩,D6⟩
   rw [if_neg c3] at H
   have c3b0:decide (0 < x1_1)=false:=decide_eq_false c3
   clear c3
   obtain rfl:=Option.some.inj H
   go_wp2
   go_ret
   exact ⟨D2,D6⟩

def impl_identity.l0:Nat→Int→List (List Int)→Int→Int→Option ((List (List Int)))
 | 0,_,_,_,_=>none
 | k+1,x0,x3,x7,x8=>if x8 < x7 then (if 0≤x0 then (if (x0:Int).toNat≤281474976710656 then ((some (List.replicate (x0:Int).toNat 0:List Int)).bind fun y107=>(if 0≤x8 then (if x8 < (y107.length:Int) then (if x3.length < 5864062014805 then (impl_identity.l0 k x0 (x3 ++ [(y107.set (x8:Int).toNat 1)]) x7 (wrap64 (x8+1))) else (none)) else (none)) else (none))) else (none)) else (none)) else (some x3)
def impl_identity.f (k:Nat) (a0:Int):Option ((List (List Int))):=impl_identity.l0 k a0 (([]:List (List Int))) a0 0
theorem impl_identity.mono_l:∀ k,(∀ y0 y1 y2 y3,LeO (impl_identity.l0 k y0 y1 y2 y3) (impl_identity.l0 (k+1) y0 y1 y2 y3))
 | 0=>fun _ _ _ _ r h=>by simp [impl_identity.l0] at h
 | k+1=>by
  have ih0:=impl_identity.mono_l k
  intro y0 y1 y2 y3
  unfold impl_identity.l0
  exact mm
theorem impl_identity.mono:∀ a0 k,LeO (impl_identity.f k a0) (impl_identity.f (k+1) a0):=by
 intro a0 k
 have ih0:=impl_identity.mono_l k
 unfold impl_identity.f
 exact mm
theorem impl_identity.calls (k:Nat) (a0:Int) (r:List (List Int)) (w:World) (h:impl_identity.f k a0=some r) :
  Calls Try.prog 168 #[.int .i64 a0] w fun e w'=>∃ v0_:Value,e = .returned (v0_)∧Kd.S (Kd.slice 5 (Kd.int .u8)) 57 w' w.heap.size (fun _=>True) v0_ r∧Below w.heap.size w w':=by
 have HB:=am (Below.refl w.heap.size w)
 have H:=h
 unfold impl_identity.f at H
 clear h
 generalize hy104:(([]:List (List Int)):List (List Int))=y104 at H
 have Ny104:=am hy104.symm
 clear hy104
 have H':=am H
 clear H
 go_enter Try.func168,Try.ntmps168
 go_wp2_with (first|((with_reducible refine gD 6 ?_);refine Kd.S_lit (Kd.slice 5 (Kd.int .u8)) _ 57 D11 (N:=6) D11 (xs:=([]:List (List Int))) (inner:=[]) (ok:=fun _=>True) (okp:=fun _=>True) D16 D25 (fun _ hk=>hk) trivial (Below.refl _ _) (Nat.le_refl _) D36 ?_;intro v105 w2 ho3 hb hg_ hnew_;clear hg_ hnew_;(first|rw [← Ny104.out] at ho3|(simp only [Int.reduceToNat] at ho3;rw [← Ny104.out] at ho3));have HO106:=am (Kd.S_lower ho3 (pz (yW HB)));replace HB:=yH HB hb;clear hb ho3))
 go_loopg [3,8] k (fun kq v3 v8 w'=>∃ (x3_1:List (List Int)) (x8_1:Int),v8 = .int .i64 x8_1∧Aside0 (impl_identity.l0 kq a0 x3_1 a0 x8_1=some r)∧Aside0 (kq≤k)∧Aside0 (Kd.S (Kd.slice 5 (Kd.int .u8)) 57 w' w.heap.size (fun _=>True) v3 x3_1)∧Aside0 (Below w.heap.size w w'))
 case atStart=>exact ⟨(y104),(0),D2,H',⟨Nat.le_refl _⟩,⟨yS HO106⟩,⟨yW HB⟩⟩
 case round =>
  clear H'
  try clear c1
  try clear p2
  obtain ⟨x3_1,x8_1,rfl,HA,HK1,HO_3,HB⟩:=hrel
  cases gk with
  | zero=>exact absurd HA.out (by simp [impl_identity.l0])
  | succ k1 =>
   have H:=HA.out
   clear HA
   simp only [impl_identity.l0] at H
   by_cases c4:x8_1 < a0
   ·rw [if_pos c4] at H
    have c4b0:=decide_eq_true c4
    clear c4
    obtain ⟨c5,H⟩:=yi H
    have c5b0:=eq_true c5
    have c5b1:decide (0≤a0)=true:=decide_eq_true c5
    clear c5
    obtain ⟨c6,H⟩:=yi H
    have c6b0:=eq_true c6
    have c6b1:decide ((a0:Int).toNat≤281474976710656)=true:=decide_eq_true c6
    clear c6
    obtain ⟨y107,hy107,H⟩:=ys H
    have Ny107:=am hy107
    clear hy107
    obtain ⟨c7,H⟩:=yi H
    have c7b0:=decide_eq_true c7
    clear c7
    obtain ⟨c8,H⟩:=yi H
    have c8b0:=decide_eq_true c8
    clear c8
    generalize hy110:(y107.set (x8_1:Int).toNat 1:List Int)=y110 at H
    have Ny110:=am hy110.symm
    clear hy110
    obtain ⟨c10,H⟩:=yi H
    have LMc10:=am c10
    clear c10
    generalize hy111:(x3_1 ++ [y110]:List (List Int))=y111 at H
    have Ny111:=am hy111.symm
    clear hy111
    have H':=am H
    clear H
    go_wp2_with (first|((with_reducible refine gD 12 ?_);refine Kd.R_make (Kd.int .u8) _ 5 rfl (N:=12) rfl 57 _ _ rfl a0 rfl rfl Try.underlying57 (.int .u8 0) 1 info5 rfl D4 D5 0 (ok:=fun _=>True) (okp:=fun _=>True) rfl (fun _ hk=>hk) trivial (od D0) (Nat.le_trans (Nat.mul_le_mul_right _ (od D0:a0.toNat≤281474976710656)) D5) (Below.refl _ _) (Nat.le_refl _) ?_;intro v108 w11 ho12 hb hg_ hnew_;clear hg_ hnew_;(first|rw [← Ny107.out] at ho12|(simp only [Int.reduceToNat] at ho12;rw [← Ny107.out] at ho12));replace HO_3:=eS HO_3 (Kd.R_base ho12) hb;have HO109:=am (Kd.R_lower ho12 (pz (yW HB)));replace HB:=yH HB hb;clear hb ho12;have p9:0≤(x8_1:Int):=od D0;have q9:(x8_1:Int) < ((y107.length:Int):Int):=od D0;obtain ⟨go9,co9,eo9,gb9,gl9,cl9,HG9⟩:=Kd.R_form HO109.out D5;(first|cases eo9|(injection eo9 with ea_ en_ ec_;(first|subst ea_|(injection ea_ with ea_;subst ea_));subst ec_;clear en_));have GB9:=am gb9;have GG9:=am HG9;clear gb9 gl9 HG9;obtain ⟨hx9_0,hf9_0⟩:=Kd.R_celln 0 HO109.out (x8_1:Int) p9 q9;replace p9:=eq_true p9;replace q9:=eq_true q9;obtain ⟨hy13_,hz13_⟩:=Kd.R_celln 0 HO109.out (x8_1:Int) (od D0) (od D0);have HP13:=Kd.R_putg HO109.out (x8_1:Int) 1)|((with_reducible refine gate_store (t:=5) (p:=15) rfl ?_);refine store_event (t:=5) (p:=15) (v:=?vo_w14) (w1:=(w11.setCell ⟨go9,(x8_1:Int).toNat,none⟩ (.int .u8 1))) ?hg ?ho ?hn ?hr ?_;(case ho=>rfl);(case hg=>rfl);(case hn=>rfl);(case hr=>first|(go_simp;done)|(go_simp;rfl));intro w14 hw;have hg:w11.grownBy w14 (some go9):=(by rw [hw];exact HP13.2);have hp_:Kd.R (Kd.int .u8) 5 w14 w.heap.size (fun _=>True) (.slice (some ⟨go9,0,none⟩) y107.length co9) y110:=(by rw [hw,Ny110.out];exact HP13.1);clear HP13;replace HO_3:=am (Kd.S_after (v:=(.slice (some ⟨go9,0,none⟩) y107.length co9)) (v1:=(.slice (some ⟨go9,0,none⟩) y107.length co9)) (ok:=(fun _=>True)) (yS HO_3) hg (.inl rfl));replace HO109:=am (hp_);replace HB:=am ((by rw [hw];exact pt (HB.out) GB9.out:Below w.heap.size w w14));clear hg hw hp_)|((with_reducible refine gate_builtin (b:=.append) (xs:=#[.tmp 16, .tmp 18]) rfl ?_);at_builtin;refine Kd.S_append (Kd.slice 5 (Kd.int .u8)) (w0:=w) w.heap.size rfl (.tmp 16) (.tmp 18) 37 57 (.slice none 0 0) 24 rfl Try.underlying37 info57 rfl D4 D5 u3 x3_1 y110 [.slice (some ⟨go9,0,none⟩) y107.length co9] (fun _=>True) (fun k_=>some k_=(.slice (some ⟨go9,0,none⟩) y107.length co9:Value).ownBlock) rfl rfl (by exact Kd.M_row (Kd.R_mono (Kd.R_tight rfl (Kd.R_mono (ok':=fun k_=>((fun _=>True)) k_∧some k_ ≠ (u3:Value).ownBlock) (Kd.R_apart' (HO109.out) (Kd.S_typed HO_3.out) D4) (fun k_ hk=>⟨trivial,hk.2⟩))) (fun _ h_=>h_))) (fun k_ hk_=>((Kd.R_mono (ok':=fun k_=>((fun _=>True)) k_∧some k_ ≠ (u3:Value).ownBlock) (Kd.R_apart' (HO109.out) (Kd.S_typed HO_3.out) D4) (fun k_ hk=>⟨trivial,hk.2⟩))).1 k_ hk_.symm) D34 (by exact (by refine sS ?_;exact Kd.S_mono HO_3.out (fun k_ hk=>⟨trivial,fun e_=>hk.2 e_⟩))) D46 D26 (by have:=LMc10.out;omega) ?_;intro v112 w15 ho hb hg hat;rw [← Ny111.out] at ho;have n0_:=am (hb);have n1_:=am (ho);clear HB HO_3 HO109;have HB:=n0_;have HO113:=n1_;clear n0_ n1_ ho hb hg hat))
    go_roundg k1
    case measure=>have:=HK1.out;omega
    case rel=>exact ⟨(y111),(wrap64 (x8_1+1)),D2,H',⟨D17⟩,⟨yS HO113⟩,⟨yW HB⟩⟩
   rw [if_neg c4] at H
   have c4b0:=decide_eq_false c4
   clear c4
   obtain rfl:=Option.some.inj H
   go_wp2
   go_ret
   exact ⟨_,D1,yS HO_3,yW HB⟩

theorem fl_info5:(Try.prog.info? 5).map (fun i=>(i.zero,i.size,i.bytes))=some (some (.int .u8 0),1,1):=by kernel_rfl
theorem fl_info32:(Try.prog.info? 57).map (fun i=>(i.zero,i.size,i.bytes))=some (some (.slice none 0 0),1,24):=by kernel_rfl

mutual
def impl_filled.l0 (E:Nat→Int→Int→Option Int):Nat→Int→List (List Int)→Int→Int→Option ((List (List Int)))
 | 0,_,_,_,_=>none
 | k+1,x1,x7,x12,x13=>if x13 < x12 then (impl_filled.l1 E k x1 x7 x13 (([]:List Int)) x12 x13 x1 0) else (some x7)
def impl_filled.l1 (E:Nat→Int→Int→Option Int):Nat→Int→List (List Int)→Int→List Int→Int→Int→Int→Int→Option ((List (List Int)))
 | 0,_,_,_,_,_,_,_,_=>none
 | k+1,x1,x7,x8,x9,x12,x13,x17,x18=>if x18 < x17 then ((E k x8 x18).bind fun t149=>(if x9.length < 140737488355328 then (impl_filled.l1 E k x1 x7 x8 (x9 ++ [t149]) x12 x13 x17 (wrap64 (x18+1))) else (none))) else (if x7.length < 5864062014805 then (impl_filled.l0 E k x1 (x7 ++ [x9]) x12 (wrap64 (x13+1))) else (none))
end
def impl_filled.f (E:Nat→Int→Int→Option Int) (k:Nat) (a0:Int) (a1:Int):Option ((List (List Int))):=impl_filled.l0 E k a1 (([]:List (List Int))) a0 0
theorem impl_filled.mono_l (E:Nat→Int→Int→Option Int) (hE:∀ i j k,LeO (E k i j) (E (k+1) i j)):∀ k,(∀ y0 y1 y2 y3,LeO (impl_filled.l0 E k y0 y1 y2 y3) (impl_filled.l0 E (k+1) y0 y1 y2 y3))∧(∀ y0 y1 y2 y3 y4 y5 y6 y7,LeO (impl_filled.l1 E k y0 y1 y2 y3 y4 y5 y6 y7) (impl_filled.l1 E (k+1) y0 y1 y2 y3 y4 y5 y6 y7))
 | 0=>⟨fun _ _ _ _ r h=>by simp [impl_filled.l0] at h,fun _ _ _ _ _ _ _ _ r h=>by simp [impl_filled.l1] at h⟩
 | k+1=>by
  obtain ⟨ih0,ih1⟩:=impl_filled.mono_l E hE k
  refine ⟨?_,?_⟩
  ·intro y0 y1 y2 y3
   unfold impl_filled.l0
   repeat' first
   | (with_reducible exact ih0 _ _ _ _)
   | (with_reducible exact ih1 _ _ _ _ _ _ _ _)
   | (with_reducible exact hE _ _ _)
   |(with_reducible exact LeO.refl _)|(with_reducible exact LeO.none _)|(with_reducible refine LeO.ite ?_ ?_)|(with_reducible refine LeO.bind ?_ (fun _=>?_))|exact ih0 _ _ _ _|exact ih1 _ _ _ _ _ _ _ _|exact hE _ _ _|exact LeO.none _|refine LeO.ite ?_ ?_|refine LeO.bind ?_ (fun _=>?_)
  intro y0 y1 y2 y3 y4 y5 y6 y7
  unfold impl_filled.l1
  repeat' first
  | (with_reducible exact ih0 _ _ _ _)
  | (with_reducible exact ih1 _ _ _ _ _ _ _ _)
  | (with_reducible exact hE _ _ _)
  |(with_reducible exact LeO.refl _)|(with_reducible exact LeO.none _)|(with_reducible refine LeO.ite ?_ ?_)|(with_reducible refine LeO.bind ?_ (fun _=>?_))|exact ih0 _ _ _ _|exact ih1 _ _ _ _ _ _ _ _|exact hE _ _ _|exact LeO.none _|refine LeO.ite ?_ ?_|refine LeO.bind ?_ (fun _=>?_)
theorem impl_filled.mono (E:Nat→Int→Int→Option Int) (hE:∀ i j k,LeO (E k i j) (E (k+1) i j)):∀ a0 a1 k,LeO (impl_filled.f E k a0 a1) (impl_filled.f E (k+1) a0 a1):=by
 intro a0 a1 k
 obtain ⟨ih0,ih1⟩:=impl_filled.mono_l E hE k
 unfold impl_filled.f
 repeat' first
   | (with_reducible exact ih0 _ _ _ _)
   | (with_reducible exact ih1 _ _ _ _ _ _ _ _)
   | (with_reducible exact hE _ _ _)
   |(with_reducible exact LeO.refl _)|(with_reducible exact LeO.none _)|(with_reducible refine LeO.ite ?_ ?_)|(with_reducible refine LeO.bind ?_ (fun _=>?_))|exact ih0 _ _ _ _|exact ih1 _ _ _ _ _ _ _ _|exact hE _ _ _|exact LeO.none _|refine LeO.ite ?_ ?_|refine LeO.bind ?_ (fun _=>?_)
theorem impl_filled.calls (E:Nat→Int→Int→Option Int) (g:Nat) (eg:∀ args w,(callFunc g args).run Try.prog w = .ok (.enter g args) w) (lb:Array Value) (k:Nat) (a0:Int) (a1:Int) (r:List (List Int)) (w:World)
  (hE:∀ k i j t W,Below w.heap.size w W→E k i j=some t→Calls Try.prog g (#[.int .i64 i, .int .i64 j] ++ lb) W fun e w'=>e = .returned (.int .u8 t)∧Drawn0 W w') (h:impl_filled.f E k a0 a1=some r) :
  Calls Try.prog 178 #[.int .i64 a0, .int .i64 a1, .func (.func g) #[] lb] w fun e w'=>∃ v0_:Value,e = .returned (v0_)∧Kd.S (Kd.slice 5 (Kd.int .u8)) 57 w' w.heap.size (fun _=>True) v0_ r∧Below w.heap.size w w':=by
 have HX:=am hE
 clear hE
 have HB:=am (Below.refl w.heap.size w)
 have H:=h
 unfold impl_filled.f at H
 clear h
 generalize hy143:(([]:List (List Int)):List (List Int))=y143 at H
 have Ny143:=am hy143.symm
 clear hy143
 have H':=am H
 clear H
 go_enter Try.func178,Try.ntmps178
 go_wp2_with (first|((with_reducible refine gD 11 ?_);refine Kd.S_lit (Kd.slice 5 (Kd.int .u8)) _ 57 D11 (N:=11) D11 (xs:=([]:List (List Int))) (inner:=[]) (ok:=fun _=>True) (okp:=fun _=>True) D16 D25 (fun _ hk=>hk) trivial (Below.refl _ _) (Nat.le_refl _) D36 ?_;intro v144 w4 ho5 hb hg_ hnew_;clear hg_ hnew_;(first|rw [← Ny143.out] at ho5|(simp only [Int.reduceToNat] at ho5;rw [← Ny143.out] at ho5));have HO145:=am (Kd.S_lower ho5 (pz (yW HB)));replace HB:=yH HB hb;clear hb ho5))
 go_loopg [7,13] k (fun kq v7 v13 w'=>∃ (x7_1:List (List Int)) (x13_1:Int),v13 = .int .i64 x13_1∧Aside0 (impl_filled.l0 E kq a1 x7_1 a0 x13_1=some r)∧Aside0 (kq≤k)∧Aside0 (Kd.S (Kd.slice 5 (Kd.int .u8)) 57 w' w.heap.size (fun _=>True) v7 x7_1)∧Aside0 (Below w.heap.size w w'))
 case atStart=>exact ⟨(y143),(0),D2,H',⟨Nat.le_refl _⟩,⟨yS HO145⟩,⟨yW HB⟩⟩
 case round =>
  clear H'
  try clear p2
  obtain ⟨x7_1,x13_1,rfl,HA,HK1,HO_7,HB⟩:=hrel
  cases gk with
  | zero=>exact absurd HA.out (by simp [impl_filled.l0])
  | succ k1 =>
   have H:=HA.out
   clear HA
   simp only [impl_filled.l0] at H
   by_cases c6:x13_1 < a0
   ·rw [if_pos c6] at H
    have c6b0:=decide_eq_true c6
    clear c6
    generalize hy146:(([]:List Int):List Int)=y146 at H
    have Ny146:=am hy146.symm
    clear hy146
    have H':=am H
    clear H
    go_wp2_with (first|((with_reducible refine gD 16 ?_);refine Kd.R_lit (Kd.int .u8) _ 5 D11 (N:=16) D11 (xs:=([]:List Int)) (inner:=[]) (ok:=fun _=>True) (okp:=fun _=>True) D16 D25 (fun _ hk=>hk) trivial (Below.refl _ _) (Nat.le_refl _) D36 ?_;intro v147 w7 ho8 hb hg_ hnew_;clear hg_ hnew_;(first|rw [← Ny146.out] at ho8|(simp only [Int.reduceToNat] at ho8;rw [← Ny146.out] at ho8));replace HO_7:=eS HO_7 (Kd.R_base ho8) hb;have HO148:=am (Kd.R_lower ho8 (pz (yW HB)));replace HB:=yH HB hb;clear hb ho8))
    go_loopg [9,18] k1 (fun kq v9 v18 w'=>∃ (x9_2:List Int) (x18_2:Int),v18 = .int .i64 x18_2∧Aside0 (impl_filled.l1 E kq a1 x7_1 x13_1 x9_2 a0 x13_1 a1 x18_2=some r)∧Aside0 (kq≤k1)∧Aside0 (Kd.S (Kd.slice 5 (Kd.int .u8)) 57 w' w.heap.size (fun k_=>some k_ ≠ (v9:Value).ownBlock) u7 x7_1)∧Aside0 (Kd.R (Kd.int .u8) 5 w' w.heap.size (fun _=>True) v9 x9_2)∧Aside0 (Below w.heap.size w w'))
    case atStart=>exact ⟨(y146),(0),D2,H',⟨Nat.le_refl _⟩,⟨by refine sS ?_;exact Kd.S_mono HO_7.out (fun _ hk=>hk.2)⟩,⟨yR HO148⟩,⟨yW HB⟩⟩
    case round =>
     clear H'
     try clear p2
     try clear c6
     try clear c6b0
     try clear c8
     try clear p2
     obtain ⟨x9_2,x18_2,rfl,HA,HK2,HO_7,HO_9,HB⟩:=hrel
     cases gk with
     | zero=>exact absurd HA.out (by simp [impl_filled.l1])
     | succ k2 =>
      have H:=HA.out
      clear HA
      simp only [impl_filled.l1] at H
      by_cases c9:x18_2 < a1
      ·rw [if_pos c9] at H
       have c9b0:=decide_eq_true c9
       clear c9
       obtain ⟨t149,A10,H⟩:=yo H
       obtain ⟨c11,H⟩:=yi H
       have LMc11:=am c11
       clear c11
       generalize hy150:(x9_2 ++ [t149]:List Int)=y150 at H
       have Ny150:=am hy150.symm
       clear hy150
       have H':=am H
       clear H
       go_wp2_with (first|(go_at_fn g;refine (HX.out _ _ _ _ _ (by (repeat (first|(with_reducible first|exact HB.out|apply pa|apply pb|apply pd)|exact HB.out))) A10.out).mono ?_;rintro e w' ⟨rfl,⟨nd,rfl⟩⟩)|((with_reducible refine gate_builtin (b:=.append) (xs:=#[.tmp 21, .tmp 26]) rfl ?_);at_builtin;refine Kd.R_append (Kd.int .u8) (w0:=w) w.heap.size rfl (.tmp 21) (.tmp 26) 57 5 (.int .u8 0) 1 rfl Try.underlying57 fl_info5 rfl D4 D5 u9 x9_2 t149 [.int .u8 t149] (fun _=>True) (fun _=>False) rfl rfl D75 (fun _ hk=>hk.elim) D34 (by exact (yR HO_9)) D46 D26 (by have:=LMc11.out;omega) ?_;intro v151 w12 ho hb hg hat;rw [← Ny150.out] at ho;have n0_:=am (Kd.S_after (ok:=(fun _=>True)) (by refine sS ?_;exact Kd.S_mono HO_7.out (fun _ hk=>⟨trivial,hk⟩)) hg hat);have n1_:=am (hb);have n2_:=am (ho);clear HO_7 HB HO_9;have HO_7:=n0_;have HB:=n1_;have HO152:=n2_;clear n0_ n1_ n2_ ho hb hg hat))
       go_roundg k2
       case measure=>have:=HK1.out;have:=HK2.out;omega
       case rel=>exact ⟨(y150),(wrap64 (x18_2+1)),D2,H',⟨D37⟩,⟨by refine sS ?_;exact Kd.S_mono HO_7.out (fun _ hk=>hk.2)⟩,⟨yR HO152⟩,⟨yW HB⟩⟩
      rw [if_neg c9] at H
      have c9b0:=decide_eq_false c9
      clear c9
      obtain ⟨c13,H⟩:=yi H
      have LMc13:=am c13
      clear c13
      generalize hy153:(x7_1 ++ [x9_2]:List (List Int))=y153 at H
      have Ny153:=am hy153.symm
      clear hy153
      have H':=am H
      clear H
      obtain ⟨Ao15,co15,eo15⟩:=Kd.R_slice HO_9.out
      subst eo15
      go_wp2_with (first|((with_reducible refine gate_builtin (b:=.append) (xs:=#[.tmp 29, .tmp 31]) rfl ?_);at_builtin;refine Kd.S_append (Kd.slice 5 (Kd.int .u8)) (w0:=w) w.heap.size rfl (.tmp 29) (.tmp 31) 37 57 (.slice none 0 0) 24 rfl Try.underlying37 fl_info32 rfl D4 D5 u7 x7_1 x9_2 [.slice Ao15 x9_2.length co15] (fun _=>True) (fun k_=>some k_=(.slice Ao15 x9_2.length co15:Value).ownBlock) rfl rfl (by exact Kd.M_row (Kd.R_mono (Kd.R_tight rfl (Kd.R_mono (ok':=fun k_=>((fun _=>True)) k_∧some k_ ≠ (u7:Value).ownBlock) (Kd.R_apart' (HO_9.out) (Kd.S_typed HO_7.out) D4) (fun k_ hk=>⟨trivial,hk.2⟩))) (fun _ h_=>h_))) (fun k_ hk_=>((Kd.R_mono (ok':=fun k_=>((fun _=>True)) k_∧some k_ ≠ (u7:Value).ownBlock) (Kd.R_apart' (HO_9.out) (Kd.S_typed HO_7.out) D4) (fun k_ hk=>⟨trivial,hk.2⟩))).1 k_ hk_.symm) D34 (by exact (by refine sS ?_;exact Kd.S_mono HO_7.out (fun k_ hk=>⟨trivial,fun e_=>hk e_⟩))) D46 D26 (by have:=LMc13.out;omega) ?_;intro v154 w14 ho hb hg hat;rw [← Ny153.out] at ho;have n0_:=am (hb);have n1_:=am (ho);clear HB HO_7 HO_9;have HB:=n0_;have HO155:=n1_;clear n0_ n1_ ho hb hg hat))
      go_roundg k2
      case measure=>have:=HK1.out;have:=HK2.out;omega
      case rel=>exact ⟨(y153),(wrap64 (x13_1+1)),D2,H',⟨D37⟩,⟨yS HO155⟩,⟨yW HB⟩⟩
   rw [if_neg c6] at H
   have c6b0:=decide_eq_false c6
   clear c6
   obtain rfl:=Option.some.inj H
   go_wp2
   go_ret
   exact ⟨_,D1,yS HO_7,yW HB⟩

set_option maxHeartbeats 4000000 in
theorem impl_cauchy.inv_calls (k:Nat) (a t:Int) (W:World) (h:impl_power.f k a 254=some t) :
  Calls Try.prog 207 #[.int .u8 a] W fun e w'=>e = .returned (.int .u8 t)∧Drawn0 W w':=by
 have HX:=am h
 clear h
 go_enter Try.func207,Try.ntmps207
 go_wp2_with (go_at_call 180;(with_reducible refine (impl_power.calls k a 254 t _ HX.out).mono ?_);rintro e w' ⟨rfl,⟨q,rfl⟩⟩)
 go_ret
 exact ⟨rfl,⟨_,rfl⟩⟩
def impl_cauchy.E (c:Int) (k:Nat) (i j:Int):Option Int:=impl_power.f k ((Go.bits .xor .i64 (wrap64 (c+i)) j) % 256) 254
theorem impl_cauchy.mono_E (c:Int):∀ i j k,LeO (impl_cauchy.E c k i j) (impl_cauchy.E c (k+1) i j):=fun i j k=>impl_power.mono _ _ _
def impl_cauchy.f (k:Nat) (a0:Int) (a1:Int):Option ((List (List Int))):=impl_filled.f (impl_cauchy.E a1) k a0 a1
theorem impl_cauchy.mono:∀ a0 a1 k,LeO (impl_cauchy.f k a0 a1) (impl_cauchy.f (k+1) a0 a1):=fun a0 a1 k=>impl_filled.mono _ (impl_cauchy.mono_E a1) a0 a1 k
set_option maxHeartbeats 4000000 in
theorem impl_cauchy.elem (gb:Nat) (c:Int) (k:Nat) (i j t:Int) (W:World) (hbox:W.cell? ⟨gb,0,none⟩=some (.int .i64 c)) (h:impl_cauchy.E c k i j=some t) :
  Calls Try.prog 208 #[.int .i64 i, .int .i64 j, .pointer (some ⟨gb,0,none⟩)] W fun e w'=>e = .returned (.int .u8 t)∧Drawn0 W w':=by
 have HX:=am h
 clear h
 go_enter Try.func208,Try.ntmps208
 go_wp2_with fail
 refine (impl_cauchy.inv_calls k ((Go.bits .xor .i64 (wrap64 (c+i)) j) % 256) t _ HX.out).mono ?_
 rintro e w' ⟨rfl,⟨q,rfl⟩⟩
 go_wp2
 go_ret
 exact ⟨rfl,⟨_,rfl⟩⟩
set_option maxHeartbeats 4000000 in
theorem impl_cauchy.calls (k:Nat) (a0:Int) (a1:Int) (r:List (List Int)) (w:World) (h:impl_cauchy.f k a0 a1=some r) :
  Calls Try.prog 188 #[.int .i64 a0, .int .i64 a1] w fun e w'=>∃ v0_:Value,e = .returned (v0_)∧Kd.S (Kd.slice 5 (Kd.int .u8)) 57 w' w.heap.size (fun _=>True) v0_ r∧Below w.heap.size w w':=by
 go_enter Try.func188,Try.ntmps188
 go_wp2_with fail
 obtain ⟨W,hW⟩:∃ W:World,W=w.alloc (.cells #[.int .i64 a1] 3 (0,0)):=⟨_,rfl⟩
 have hb:Below w.heap.size w W:=by rw [hW];exact pa (Below.refl _ _) _
 have hc1:W.cell? ⟨w.heap.size,0,none⟩=some (.int .i64 a1):=by rw [hW];go_simp
 have hlt:w.heap.size < W.heap.size:=by rw [hW];simp
 rw [← hW]
 refine (impl_filled.calls (impl_cauchy.E a1) 208 (enters_of Try.func208 rfl rfl) #[.pointer (some ⟨w.heap.size,0,none⟩)] k a0 a1 r W (fun k i j t W' hb' hE=>impl_cauchy.elem w.heap.size a1 k i j t W' ((hb'.cell hlt).trans hc1) hE) h).mono ?_
 rintro e w' ⟨v,rfl,hS,hB⟩
 go_wp2
 go_ret
 exact ⟨_,rfl,Kd.S_lower hS (Nat.le_of_lt hlt),below_then hb (Nat.le_of_lt hlt) hB⟩

def impl_Local_data.f (a0_0:Int) (a0_1:Int) (a0_2:Int):Option (Int):=some (wrap64 (a0_0*a0_1))
theorem impl_Local_data.calls (a0_0:Int) (a0_1:Int) (a0_2:Int) (r:Int) (w:World) (h:impl_Local_data.f a0_0 a0_1 a0_2=some r) :
  Calls Try.prog 115 #[.agg #[.int .i64 a0_0, .int .i64 a0_1, .int .i64 a0_2]] w fun e w'=>e = .returned (.int .i64 r)∧Below w.heap.size w w':=by
 have hu51:=Try.underlying51
 have HB:=am (Below.refl w.heap.size w)
 have H:=h
 unfold impl_Local_data.f at H
 clear h
 obtain rfl:=Option.some.inj H
 go_enter Try.func115,Try.ntmps115
 go_wp2_with (first|((with_reducible refine gD 1 ?_);refine gB (cs:=#[.int .i64 a0_0, .int .i64 a0_1, .int .i64 a0_2]) 51 ?_;intro gb114 hg w2 hbox hb;have BK114:=am (hbox);have GW114:=ye HB hg;replace HB:=yH HB hb;have GE114:=GW114;clear hb hbox hg;obtain ⟨hcz3_0,hcz3_1,hcz3_2,hfz3_0,hfz3_1,hfz3_2⟩:=yk3 BK114))
 go_ret
 exact ⟨D1,yW HB⟩

def laws_toLocal.f (a0_0:Int) (a0_1:Int) (a0_2:Int):Option (Int × Int × Int):=some (a0_0,a0_1,a0_2)
theorem laws_toLocal.calls (a0_0:Int) (a0_1:Int) (a0_2:Int) (r1:Int) (r2:Int) (r3:Int) (w:World) (h:laws_toLocal.f a0_0 a0_1 a0_2=some (r1,r2,r3)) :
  Calls Try.prog 31 #[.agg #[.int .i64 a0_0, .int .i64 a0_1, .int .i64 a0_2]] w fun e w'=>e = .returned (.agg #[.int .i64 r1, .int .i64 r2, .int .i64 r3])∧Below w.heap.size w w':=by
 have hu48:=Try.underlying48
 have hu51:=Try.underlying51
 have HB:=am (Below.refl w.heap.size w)
 have H:=h
 unfold laws_toLocal.f at H
 clear h
 simp only [Option.some.injEq,Prod.mk.injEq] at H
 obtain ⟨rfl,rfl,rfl⟩:=H
 go_enter Try.func31,Try.ntmps31
 go_wp2_with (first|((with_reducible refine gD 1 ?_);refine gB (cs:=#[.int .i64 a0_0, .int .i64 a0_1, .int .i64 a0_2]) 48 ?_;intro gb115 hg w2 hbox hb;have BK115:=am (hbox);have GW115:=ye HB hg;replace HB:=yH HB hb;have GE115:=GW115;clear hb hbox hg)|((with_reducible refine gD 2 ?_);refine gB (cs:=#[.int .i64 0, .int .i64 0, .int .i64 0]) 51 ?_;intro gb116 hg w3 hbox hb;have BK116:=am (hbox);have GW116:=ye HB hg;replace HB:=yH HB hb;have NB115_116:=yl BK115 hg;have NB116_115:=yg BK115 hg;replace BK115:=yb BK115 hb;have GE116:=GW116;clear hb hbox hg)|((with_reducible refine gD 3 ?_);refine gB (cs:=#[.int .i64 0, .int .i64 0, .int .i64 0]) 51 ?_;intro gb117 hg w4 hbox hb;have BK117:=am (hbox);have GW117:=ye HB hg;replace HB:=yH HB hb;have NB115_117:=yl BK115 hg;have NB117_115:=yg BK115 hg;replace BK115:=yb BK115 hb;have NB116_117:=yl BK116 hg;have NB117_116:=yg BK116 hg;replace BK116:=yb BK116 hb;have GE117:=GW117;clear hb hbox hg;have hnb5:=NB115_116.out;have hnc5:=NB116_115.out;have hnb6:=NB115_117.out;have hnc6:=NB117_115.out;obtain ⟨hcz7_0,hcz7_1,hcz7_2,hfz7_0,hfz7_1,hfz7_2⟩:=yk3 BK115;have hnb8:=NB117_116.out;have hnc8:=NB116_117.out;obtain ⟨hcz9_0,hcz9_1,hcz9_2,hfz9_0,hfz9_1,hfz9_2⟩:=yk3 BK117;obtain ⟨hcz10_0,hcz10_1,hcz10_2,hfz10_0,hfz10_1,hfz10_2⟩:=yk3 BK116))
 refine bodyPost_ret (results_cell_row rfl _ _ gb116 51 #[.int .i64 a0_0, .int .i64 a0_1, .int .i64 a0_2] (0,0) _ rfl (by refine sB ?_;refine blk_put (cs:=#[.int .i64 a0_0, .int .i64 a0_1, .int .i64 0]) ?_ 2 _ rfl;refine sB ?_;refine blk_put (cs:=#[.int .i64 a0_0, .int .i64 0, .int .i64 0]) ?_ 1 _ rfl;refine sB ?_;refine blk_put (cs:=#[.int .i64 0, .int .i64 0, .int .i64 0]) ?_ 0 _ rfl;exact yF BK116) Try.underlying51 rfl D3) rfl ?_
 exact ⟨D1,yW HB⟩

def laws_szShard.f (a0_0:Int) (a0_1:ByteArray) (a1:Int):Option (Int):=if (wrap64 (a1 - (a0_1.size:Int))) < 0 then (some (-1)) else (some (wrap64 (a1 - (a0_1.size:Int))))
theorem laws_szShard.calls (a0_0:Int) (a0_1:ByteArray) (a1:Int) (r:Int) (w:World) (h:laws_szShard.f a0_0 a0_1 a1=some r) :
  Calls Try.prog 134 #[.agg #[.int .i64 a0_0, .string a0_1], .int .i64 a1] w fun e w'=>e = .returned (.int .i64 r)∧Below w.heap.size w w':=by
 have hu160:=Try.underlying160
 have HB:=am (Below.refl w.heap.size w)
 have H:=h
 unfold laws_szShard.f at H
 clear h
 by_cases c3:(wrap64 (a1 - (a0_1.size:Int))) < 0
 ·rw [if_pos c3] at H
  have c3b0:=decide_eq_true c3
  clear c3
  obtain rfl:=Option.some.inj H
  go_enter Try.func134,Try.ntmps134
  go_wp2_with (first|((with_reducible refine gD 2 ?_);refine gB (cs:=#[.int .i64 a0_0, .string a0_1]) 160 ?_;intro gb118 hg w4 hbox hb;have BK118:=am (hbox);have GW118:=ye HB hg;replace HB:=yH HB hb;have GE118:=GW118;clear hb hbox hg;obtain ⟨hcz5_0,hcz5_1,hfz5_0,hfz5_1⟩:=yk2 BK118))
  go_ret
  exact ⟨D1,yW HB⟩
 rw [if_neg c3] at H
 have c3b0:=decide_eq_false c3
 clear c3
 obtain rfl:=Option.some.inj H
 go_enter Try.func134,Try.ntmps134
 go_wp2_with (first|((with_reducible refine gD 2 ?_);refine gB (cs:=#[.int .i64 a0_0, .string a0_1]) 160 ?_;intro gb118 hg w6 hbox hb;have BK118:=am (hbox);have GW118:=ye HB hg;replace HB:=yH HB hb;have GE118:=GW118;clear hb hbox hg;obtain ⟨hcz7_0,hcz7_1,hfz7_0,hfz7_1⟩:=yk2 BK118))
 go_ret
 exact ⟨D1,yW HB⟩

def laws_szShardS.l0:Nat→List (S160)→Int→Int→Option (Int)
 | 0,_,_,_=>none
 | k+1,x0,x1,x5=>if x5 < (x0.length:Int) then (if 0≤x5 then ((laws_szShard.f ((rd_T160 x0 x5).f0) ((rd_T160 x0 x5).f1) x1).bind fun t120=>(if t120 < 0 then (some (-1)) else (laws_szShardS.l0 k x0 t120 (wrap64 (x5+1))))) else (none)) else (some x1)
def laws_szShardS.f (k:Nat) (l0:List (S160)) (a1:Int):Option (Int):=if (wrap64 (a1 - (l0.length:Int))) < 0 then (some (-1)) else (laws_szShardS.l0 k l0 (wrap64 (a1 - (l0.length:Int))) 0)
theorem laws_szShardS.mono_l:∀ k,(∀ y0 y1 y2,LeO (laws_szShardS.l0 k y0 y1 y2) (laws_szShardS.l0 (k+1) y0 y1 y2))
 | 0=>fun _ _ _ r h=>by simp [laws_szShardS.l0] at h
 | k+1=>by
  have ih0:=laws_szShardS.mono_l k
  intro y0 y1 y2
  unfold laws_szShardS.l0
  exact mm
theorem laws_szShardS.mono:∀ a0 a1 k,LeO (laws_szShardS.f k a0 a1) (laws_szShardS.f (k+1) a0 a1):=by
 intro a0 a1 k
 have ih0:=laws_szShardS.mono_l k
 unfold laws_szShardS.f
 exact mm
theorem laws_szShardS.calls (k:Nat) (A0:Option Addr) (c0:Nat) (l0:List (S160)) (a1:Int) (r:Int) (w:World) (hr0:Kd.C k160 w A0 l0.length l0) (hc0:l0.length≤c0) (h:laws_szShardS.f k l0 a1=some r) :
  Calls Try.prog 53 #[.slice A0 l0.length c0, .int .i64 a1] w fun e w'=>e = .returned (.int .i64 r)∧Below w.heap.size w w':=by
 have hu160:=Try.underlying160
 have HR0:=am hr0
 have HC0:=am hc0
 clear hr0 hc0
 have HB:=am (Below.refl w.heap.size w)
 have H:=h
 unfold laws_szShardS.f at H
 clear h
 by_cases c3:(wrap64 (a1 - (l0.length:Int))) < 0
 ·rw [if_pos c3] at H
  have c3b0:=decide_eq_true c3
  clear c3
  obtain rfl:=Option.some.inj H
  go_enter Try.func53,Try.ntmps53
  go_wp2
  go_ret
  exact ⟨D1,yW HB⟩
 rw [if_neg c3] at H
 have c3b0:=decide_eq_false c3
 clear c3
 have H':=am H
 clear H
 go_enter Try.func53,Try.ntmps53
 go_wp2
 go_loopg [1,5] k (fun kq v1 v5 w'=>∃ (x1_1:Int) (x5_1:Int),v1 = .int .i64 x1_1∧v5 = .int .i64 x5_1∧Aside0 (laws_szShardS.l0 kq l0 x1_1 x5_1=some r)∧Aside0 (kq≤k)∧Aside0 (Below w.heap.size w w'))
 case atStart=>exact ⟨(wrap64 (a1 - (l0.length:Int))),(0),D2,D2,H',⟨Nat.le_refl _⟩,⟨yW HB⟩⟩
 case round =>
  clear H'
  try clear p2
  try clear c3
  try clear c3b0
  obtain ⟨x1_1,x5_1,rfl,rfl,HA,HK1,HB⟩:=hrel
  cases gk with
  | zero=>exact absurd HA.out (by simp [laws_szShardS.l0])
  | succ k1 =>
   have H:=HA.out
   clear HA
   simp only [laws_szShardS.l0] at H
   by_cases c4:x5_1 < (l0.length:Int)
   ·rw [if_pos c4] at H
    have c4b0:=decide_eq_true c4
    clear c4
    obtain ⟨c5,H⟩:=yi H
    have c5b0:=decide_eq_true c5
    clear c5
    obtain ⟨t120,A6,H⟩:=yo H
    by_cases c7:t120 < 0
    ·rw [if_pos c7] at H
     have c7b0:=decide_eq_true c7
     clear c7
     obtain rfl:=Option.some.inj H
     have p119:0≤(x5_1:Int):=od D0
     have q119:x5_1 < (l0.length:Int):=od D0
     obtain ⟨ad119,e119,hx119_0,hx119_1⟩:=at_T160 HR0.out x5_1 p119 q119
     cases e119
     replace hx119_0:=(HB.out.cell (World.block_lt_of_cell? w _ hx119_0)).trans hx119_0
     replace hx119_1:=(HB.out.cell (World.block_lt_of_cell? w _ hx119_1)).trans hx119_1
     replace p119:=eq_true p119
     replace q119:=eq_true q119
     go_wp2_with (first|((with_reducible refine gC 134 ?_);refine gM (some 23) Try.func134 (args:=#[.agg #[.int .i64 ((rd_T160 l0 x5_1).f0), .string ((rd_T160 l0 x5_1).f1)], .int .i64 x1_1]) (laws_szShard.calls ((rd_T160 l0 x5_1).f0) ((rd_T160 l0 x5_1).f1) x1_1 t120 _ A6.out) ?_;rintro e w8 ⟨rfl,hb⟩;refine ⟨_,rfl,?_⟩;replace HB:=yH HB hb;clear hb))
     go_ret
     exact ⟨D1,yW HB⟩
    rw [if_neg c7] at H
    have c7b0:=decide_eq_false c7
    clear c7
    have H':=am H
    clear H
    have p119:0≤(x5_1:Int):=od D0
    have q119:x5_1 < (l0.length:Int):=od D0
    obtain ⟨ad119,e119,hx119_0,hx119_1⟩:=at_T160 HR0.out x5_1 p119 q119
    cases e119
    replace hx119_0:=(HB.out.cell (World.block_lt_of_cell? w _ hx119_0)).trans hx119_0
    replace hx119_1:=(HB.out.cell (World.block_lt_of_cell? w _ hx119_1)).trans hx119_1
    replace p119:=eq_true p119
    replace q119:=eq_true q119
    go_wp2_with (first|((with_reducible refine gC 134 ?_);refine gM (some 23) Try.func134 (args:=#[.agg #[.int .i64 ((rd_T160 l0 x5_1).f0), .string ((rd_T160 l0 x5_1).f1)], .int .i64 x1_1]) (laws_szShard.calls ((rd_T160 l0 x5_1).f0) ((rd_T160 l0 x5_1).f1) x1_1 t120 _ A6.out) ?_;rintro e w9 ⟨rfl,hb⟩;refine ⟨_,rfl,?_⟩;replace HB:=yH HB hb;clear hb))
    go_roundg k1
    case measure=>have:=HK1.out;omega
    case rel=>exact ⟨(t120),(wrap64 (x5_1+1)),D2,D2,H',⟨D17⟩,⟨yW HB⟩⟩
   rw [if_neg c4] at H
   have c4b0:=decide_eq_false c4
   clear c4
   obtain rfl:=Option.some.inj H
   go_wp2
   go_ret
   exact ⟨D1,yW HB⟩

def laws_toShard.f (a0_0:Int) (a0_1:ByteArray):Option (Int × ByteArray):=some (a0_0,a0_1)
theorem laws_toShard.calls (a0_0:Int) (a0_1:ByteArray) (r1:Int) (r2:ByteArray) (w:World) (h:laws_toShard.f a0_0 a0_1=some (r1,r2)) :
  Calls Try.prog 136 #[.agg #[.int .i64 a0_0, .string a0_1]] w fun e w'=>e = .returned (.agg #[.int .i64 r1, .string r2])∧Below w.heap.size w w':=by
 have hu160:=Try.underlying160
 have hu84:=Try.underlying84
 have HB:=am (Below.refl w.heap.size w)
 have H:=h
 unfold laws_toShard.f at H
 clear h
 simp only [Option.some.injEq,Prod.mk.injEq] at H
 obtain ⟨rfl,rfl⟩:=H
 go_enter Try.func136,Try.ntmps136
 go_wp2_with (first|((with_reducible refine gD 1 ?_);refine gB (cs:=#[.int .i64 a0_0, .string a0_1]) 160 ?_;intro gb121 hg w2 hbox hb;have BK121:=am (hbox);have GW121:=ye HB hg;replace HB:=yH HB hb;have GE121:=GW121;clear hb hbox hg)|((with_reducible refine gD 2 ?_);refine gB (cs:=#[.int .i64 0, .string (⟨#[]⟩:ByteArray)]) 84 ?_;intro gb122 hg w3 hbox hb;have BK122:=am (hbox);have GW122:=ye HB hg;replace HB:=yH HB hb;have NB121_122:=yl BK121 hg;have NB122_121:=yg BK121 hg;replace BK121:=yb BK121 hb;have GE122:=GW122;clear hb hbox hg)|((with_reducible refine gD 3 ?_);refine gB (cs:=#[.int .i64 0, .string (⟨#[]⟩:ByteArray)]) 84 ?_;intro gb123 hg w4 hbox hb;have BK123:=am (hbox);have GW123:=ye HB hg;replace HB:=yH HB hb;have NB121_123:=yl BK121 hg;have NB123_121:=yg BK121 hg;replace BK121:=yb BK121 hb;have NB122_123:=yl BK122 hg;have NB123_122:=yg BK122 hg;replace BK122:=yb BK122 hb;have GE123:=GW123;clear hb hbox hg;have hnb5:=NB121_122.out;have hnc5:=NB122_121.out;have hnb6:=NB121_123.out;have hnc6:=NB123_121.out;obtain ⟨hcz7_0,hcz7_1,hfz7_0,hfz7_1⟩:=yk2 BK121;have hnb8:=NB123_122.out;have hnc8:=NB122_123.out;obtain ⟨hcz9_0,hcz9_1,hfz9_0,hfz9_1⟩:=yk2 BK123;obtain ⟨hcz10_0,hcz10_1,hfz10_0,hfz10_1⟩:=yk2 BK122))
 refine bodyPost_ret (results_cell_row rfl _ _ gb122 84 #[.int .i64 a0_0, .string a0_1] (0,0) _ rfl (by refine sB ?_;refine blk_put (cs:=#[.int .i64 a0_0, .string (⟨#[]⟩:ByteArray)]) ?_ 1 _ rfl;refine sB ?_;refine blk_put (cs:=#[.int .i64 0, .string (⟨#[]⟩:ByteArray)]) ?_ 0 _ rfl;exact yF BK122) Try.underlying84 rfl D3) rfl ?_
 exact ⟨D1,yW HB⟩
def laws_toShardS.l0:Nat→List (S160)→List (S84)→Int→Option ((List (S84)))
 | 0,_,_,_=>none
 | k+1,x0,x3,x4=>if x4 < (x0.length:Int) then (if 0≤x4 then ((laws_toShard.f ((rd_T160 x0 x4).f0) ((rd_T160 x0 x4).f1)).bind fun bt128=>(if x4 < (x3.length:Int) then (laws_toShardS.l0 k x0 (x3.set (x4:Int).toNat (⟨bt128.1,bt128.2⟩:S84)) (wrap64 (x4+1))) else (none))) else (none)) else (some x3)
def laws_toShardS.f (k:Nat) (l0:List (S160)):Option ((List (S84))):=if 0≤(l0.length:Int) then (if ((l0.length:Int):Int).toNat≤11728124029610 then (laws_toShardS.l0 k l0 (List.replicate ((l0.length:Int):Int).toNat z84) 0) else (none)) else (none)
theorem laws_toShardS.mono_l:∀ k,(∀ y0 y1 y2,LeO (laws_toShardS.l0 k y0 y1 y2) (laws_toShardS.l0 (k+1) y0 y1 y2))
 | 0=>fun _ _ _ r h=>by simp [laws_toShardS.l0] at h
 | k+1=>by
  have ih0:=laws_toShardS.mono_l k
  intro y0 y1 y2
  unfold laws_toShardS.l0
  exact mm
theorem laws_toShardS.mono:∀ a0 k,LeO (laws_toShardS.f k a0) (laws_toShardS.f (k+1) a0):=by
 intro a0 k
 have ih0:=laws_toShardS.mono_l k
 unfold laws_toShardS.f
 exact mm
theorem laws_toShardS.calls (k:Nat) (A0:Option Addr) (c0:Nat) (l0:List (S160)) (r:List (S84)) (w:World) (hr0:Kd.C k160 w A0 l0.length l0) (hc0:l0.length≤c0) (h:laws_toShardS.f k l0=some r) :
  Calls Try.prog 55 #[.slice A0 l0.length c0] w fun e w'=>∃ v0_:Value,e = .returned (v0_)∧Kd.R k84 84 w' w.heap.size (fun _=>True) v0_ r∧Below w.heap.size w w':=by
 have hu160:=Try.underlying160
 have hu84:=Try.underlying84
 have HR0:=am hr0
 have HC0:=am hc0
 clear hr0 hc0
 have HB:=am (Below.refl w.heap.size w)
 have H:=h
 unfold laws_toShardS.f at H
 clear h
 by_cases c2:0≤(l0.length:Int)
 ·rw [if_pos c2] at H
  have c2b0:=eq_true c2
  have c2b1:decide (0≤(l0.length:Int))=true:=decide_eq_true c2
  clear c2
  obtain ⟨c3,H⟩:=yi H
  have c3b0:=eq_true c3
  have c3b1:decide (((l0.length:Int):Int).toNat≤11728124029610)=true:=decide_eq_true c3
  clear c3
  generalize hy124:(List.replicate ((l0.length:Int):Int).toNat z84:List (S84))=y124 at H
  have Ny124:=am hy124.symm
  clear hy124
  have H':=am H
  clear H
  go_enter Try.func55,Try.ntmps55
  go_wp2_with (first|((with_reducible refine gD 7 ?_);refine Kd.R_make k84 _ 84 rfl (N:=7) rfl 87 _ _ rfl (l0.length:Int) rfl rfl Try.underlying87 (.agg #[(.int .i64 0),(.string ⟨#[]⟩)]) 24 info84 rfl D4 D5 z84 (ok:=fun _=>True) (okp:=fun _=>True) (k84_mkM _ _ _ z84 ) (fun _ hk=>hk) trivial (od D0) (Nat.le_trans (Nat.mul_le_mul_right _ (od D0:(l0.length:Int).toNat≤11728124029610)) D5) (Below.refl _ _) (Nat.le_refl _) ?_;intro v125 w4 ho5 hb hg_ hnew_;clear hg_ hnew_;(first|rw [← Ny124.out] at ho5|(simp only [Int.reduceToNat] at ho5;rw [← Ny124.out] at ho5));have HO126:=am (Kd.R_lower ho5 (pz (yW HB)));replace HB:=yH HB hb;clear hb ho5))
  go_loopg [4] k (fun kq v4 w'=>∃ (x3_1:List (S84)) (x4_1:Int),v4 = .int .i64 x4_1∧Aside0 (laws_toShardS.l0 kq l0 x3_1 x4_1=some r)∧Aside0 (kq≤k)∧Aside0 (Kd.R k84 84 w' w.heap.size (fun _=>True) v125 x3_1)∧Aside0 (Below w.heap.size w w'))
  case atStart=>exact ⟨(y124),(0),D2,H',⟨Nat.le_refl _⟩,⟨yR HO126⟩,⟨yW HB⟩⟩
  case round =>
   clear H'
   try clear c2
   try clear c2b0
   try clear c2b1
   try clear p2
   try clear c3
   try clear c3b0
   try clear c3b1
   try clear c5
   obtain ⟨x3_1,x4_1,rfl,HA,HK1,HO_3,HB⟩:=hrel
   cases gk with
   | zero=>exact absurd HA.out (by simp [laws_toShardS.l0])
   | succ k1 =>
    have H:=HA.out
    clear HA
    simp only [laws_toShardS.l0] at H
    by_cases c6:x4_1 < (l0.length:Int)
    ·rw [if_pos c6] at H
     have c6b0:=decide_eq_true c6
     clear c6
     obtain ⟨c7,H⟩:=yi H
     have c7b0:=decide_eq_true c7
     clear c7
     obtain ⟨⟨t128,t129⟩,A8,H⟩:=yo H
     try dsimp only at H
     obtain ⟨c9,H⟩:=yi H
     have c9b0:=decide_eq_true c9
     clear c9
     generalize hy130:(x3_1.set (x4_1:Int).toNat (⟨t128,t129⟩:S84):List (S84))=y130 at H
     have Ny130:=am hy130.symm
     clear hy130
     have H':=am H
     clear H
     have p127:0≤(x4_1:Int):=od D0
     have q127:x4_1 < (l0.length:Int):=od D0
     obtain ⟨ad127,e127,hx127_0,hx127_1⟩:=at_T160 HR0.out x4_1 p127 q127
     cases e127
     replace hx127_0:=(HB.out.cell (World.block_lt_of_cell? w _ hx127_0)).trans hx127_0
     replace hx127_1:=(HB.out.cell (World.block_lt_of_cell? w _ hx127_1)).trans hx127_1
     replace p127:=eq_true p127
     replace q127:=eq_true q127
     go_wp2_with (first|((with_reducible refine gC 136 ?_);refine gM (some 20) Try.func136 (args:=#[.agg #[.int .i64 ((rd_T160 l0 x4_1).f0), .string ((rd_T160 l0 x4_1).f1)]]) (laws_toShard.calls ((rd_T160 l0 x4_1).f0) ((rd_T160 l0 x4_1).f1) t128 t129 _ A8.out) ?_;rintro e w11 ⟨rfl,hb⟩;refine ⟨_,rfl,?_⟩;replace HO_3:=bR HO_3 hb;replace HB:=yH HB hb;clear hb;have p10:0≤(x4_1:Int):=od D0;have q10:(x4_1:Int) < ((x3_1.length:Int):Int):=od D0;obtain ⟨go10,co10,eo10,gb10,gl10,cl10,HG10⟩:=Kd.R_form HO_3.out D5;(first|cases eo10|(injection eo10 with ea_ en_ ec_;(first|subst ea_|(injection ea_ with ea_;subst ea_));subst ec_;clear en_));have GB10:=am gb10;have GG10:=am HG10;clear gb10 gl10 HG10;obtain ⟨ce10,hcl10,hM10,hcc10,hfr10⟩:=Kd.R_elem HO_3.out z84 (x4_1:Int) p10 q10;obtain rfl:=k84_openM hM10;have hx10_0:w11.cell? ⟨go10,(x4_1:Int).toNat*2,none⟩=some (.int .i64 ((rd_T84 x3_1 x4_1).f0)):=hcc10 0 _ rfl;have hx10_1:w11.cell? ⟨go10,(x4_1:Int).toNat*2+1,none⟩=some (.string ((rd_T84 x3_1 x4_1).f1)):=hcc10 1 _ rfl;have hf10_0:w11.frozen? ⟨go10,(x4_1:Int).toNat*2,none⟩=false:=hfr10 0;have hf10_1:w11.frozen? ⟨go10,(x4_1:Int).toNat*2+1,none⟩=false:=hfr10 1;clear hcl10 hcc10 hfr10 hM10;replace p10:=eq_true p10;replace q10:=eq_true q10;have HX12:=am (show Kd.R k84 84 w11 w.heap.size (fun _=>True) (.slice (some ⟨go10,0,none⟩) x3_1.length co10) x3_1 from (yR HO_3));obtain ⟨ce12,hcl12,hM12,hcc12,hfr12⟩:=Kd.R_elem HX12.out z84 (x4_1:Int) (od D0) (by have h_:(x4_1:Int) < ((x3_1.length:Int):Int):=od D0;first|exact h_|(have e_:=(Kd.R_reads' HO_3.out).1;omega)|simpa using h_);obtain rfl:=k84_openM hM12;have HP12:=Kd.R_seg HX12.out (x4_1:Int) (od D0) (by have h_:(x4_1:Int) < ((x3_1.length:Int):Int):=od D0;first|exact h_|(have e_:=(Kd.R_reads' HO_3.out).1;omega)|simpa using h_) (seg:=[.int .i64 t128, .string t129]) (j:=0) hcl12 hcc12 (show 2≤2 from by decide) (x':=(⟨t128,t129⟩:S84)) (k84_mkM _ _ _ (⟨t128,t129⟩:S84) ) (fun _ hk=>hk);have hx12_0:=hcc12 0 _ rfl;(try simp only [show (k84).sz=2 from rfl,Nat.mul_one,Nat.add_zero] at hx12_0);have hf12_0:=hfr12 0;(try simp only [show (k84).sz=2 from rfl,Nat.mul_one,Nat.add_zero] at hf12_0);have hx12_1:=hcc12 1 _ rfl;(try simp only [show (k84).sz=2 from rfl,Nat.mul_one,Nat.add_zero] at hx12_1);have hf12_1:=hfr12 1;(try simp only [show (k84).sz=2 from rfl,Nat.mul_one,Nat.add_zero] at hf12_1);clear hcl12 hcc12 hfr12 hM12)|((with_reducible refine gate_store (t:=84) (p:=21) rfl ?_);refine store_event (t:=84) (p:=21) (v:=?vo_w13) (w1:=((w11.setCell ⟨go10,(x4_1:Int).toNat*2,none⟩ (.int .i64 t128)).setCell ⟨go10,(x4_1:Int).toNat*2+1,none⟩ (.string t129))) ?hg ?ho ?hn ?hr ?_;(case ho=>rfl);(case hg=>rfl);(case hn=>rfl);(case hr=>first|(go_simp;done)|(go_simp;rfl));intro w13 hw;have hg:w11.grownBy w13 (some go10):=(by rw [hw];exact HP12.2);have hp_:Kd.R k84 84 w13 w.heap.size (fun _=>True) (.slice (some ⟨go10,0,none⟩) x3_1.length co10) y130:=(by rw [hw,Ny130.out];exact HP12.1);clear HP12;replace HO_3:=am (hp_);replace HB:=am ((by rw [hw];exact pt (pt (HB.out) GB10.out) GB10.out:Below w.heap.size w w13));clear hg hw hp_))
     go_roundg k1
     case measure=>have:=HK1.out;omega
     case rel=>exact ⟨(y130),(wrap64 (x4_1+1)),D2,H',⟨D17⟩,⟨yR HO_3⟩,⟨yW HB⟩⟩
    rw [if_neg c6] at H
    have c6b0:=decide_eq_false c6
    clear c6
    obtain rfl:=Option.some.inj H
    go_wp2
    go_ret
    exact ⟨_,D1,yR HO_3,yW HB⟩
 rw [if_neg c2] at H
 exact absurd H D36

def laws_eqShard.f (a0_0:Int) (a0_1:ByteArray) (a1_0:Int) (a1_1:ByteArray):Option (Bool):=if a0_0=a1_0 then (if a0_1.toList=a1_1.toList then (some true) else (some false)) else (some false)
theorem laws_eqShard.calls (a0_0:Int) (a0_1:ByteArray) (a1_0:Int) (a1_1:ByteArray) (r:Bool) (w:World) (h:laws_eqShard.f a0_0 a0_1 a1_0 a1_1=some r) :
  Calls Try.prog 57 #[.agg #[.int .i64 a0_0, .string a0_1], .agg #[.int .i64 a1_0, .string a1_1]] w fun e w'=>e = .returned (.bool r)∧Below w.heap.size w w':=by
 have hu84:=Try.underlying84
 have HB:=am (Below.refl w.heap.size w)
 have H:=h
 unfold laws_eqShard.f at H
 clear h
 by_cases c3:a0_0=a1_0
 ·rw [if_pos c3] at H
  have c3b0:(a0_0 == a1_0)=true:=beq_iff_eq.mpr c3
  have c3b1:(a0_0 != a1_0)=false:=bne_eq_false_iff_eq.mpr c3
  clear c3
  by_cases c4:a0_1.toList=a1_1.toList
  ·rw [if_pos c4] at H
   have c4b0:(a0_1.toList == a1_1.toList)=true:=beq_iff_eq.mpr c4
   have c4b1:(a0_1.toList != a1_1.toList)=false:=bne_eq_false_iff_eq.mpr c4
   clear c4
   obtain rfl:=Option.some.inj H
   go_enter Try.func57,Try.ntmps57
   go_wp2_with (first|((with_reducible refine gD 2 ?_);refine gB (cs:=#[.int .i64 a0_0, .string a0_1]) 84 ?_;intro gb131 hg w5 hbox hb;have BK131:=am (hbox);have GW131:=ye HB hg;replace HB:=yH HB hb;have GE131:=GW131;clear hb hbox hg)|((with_reducible refine gD 3 ?_);refine gB (cs:=#[.int .i64 a1_0, .string a1_1]) 84 ?_;intro gb132 hg w6 hbox hb;have BK132:=am (hbox);have GW132:=ye HB hg;replace HB:=yH HB hb;have NB131_132:=yl BK131 hg;have NB132_131:=yg BK131 hg;replace BK131:=yb BK131 hb;have GE132:=GW132;clear hb hbox hg;have hnb7:=NB131_132.out;have hnc7:=NB132_131.out;obtain ⟨hcz8_0,hcz8_1,hfz8_0,hfz8_1⟩:=yk2 BK131;obtain ⟨hcz9_0,hcz9_1,hfz9_0,hfz9_1⟩:=yk2 BK132))
   go_ret
   exact ⟨D1,yW HB⟩
  rw [if_neg c4] at H
  have c4b0:(a0_1.toList == a1_1.toList)=false:=beq_eq_false_iff_ne.mpr c4
  have c4b1:(a0_1.toList != a1_1.toList)=true:=bne_iff_ne.mpr c4
  obtain rfl:=Option.some.inj H
  go_enter Try.func57,Try.ntmps57
  go_wp2_with (first|((with_reducible refine gD 2 ?_);refine gB (cs:=#[.int .i64 a0_0, .string a0_1]) 84 ?_;intro gb131 hg w10 hbox hb;have BK131:=am (hbox);have GW131:=ye HB hg;replace HB:=yH HB hb;have GE131:=GW131;clear hb hbox hg)|((with_reducible refine gD 3 ?_);refine gB (cs:=#[.int .i64 a1_0, .string a1_1]) 84 ?_;intro gb132 hg w11 hbox hb;have BK132:=am (hbox);have GW132:=ye HB hg;replace HB:=yH HB hb;have NB131_132:=yl BK131 hg;have NB132_131:=yg BK131 hg;replace BK131:=yb BK131 hb;have GE132:=GW132;clear hb hbox hg;have hnb12:=NB131_132.out;have hnc12:=NB132_131.out;obtain ⟨hcz13_0,hcz13_1,hfz13_0,hfz13_1⟩:=yk2 BK131;obtain ⟨hcz14_0,hcz14_1,hfz14_0,hfz14_1⟩:=yk2 BK132))
  go_ret
  exact ⟨D1,yW HB⟩
 rw [if_neg c3] at H
 have c3b0:(a0_0 == a1_0)=false:=beq_eq_false_iff_ne.mpr c3
 have c3b1:(a0_0 != a1_0)=true:=bne_iff_ne.mpr c3
 obtain rfl:=Option.some.inj H
 go_enter Try.func57,Try.ntmps57
 go_wp2_with (first|((with_reducible refine gD 2 ?_);refine gB (cs:=#[.int .i64 a0_0, .string a0_1]) 84 ?_;intro gb131 hg w15 hbox hb;have BK131:=am (hbox);have GW131:=ye HB hg;replace HB:=yH HB hb;have GE131:=GW131;clear hb hbox hg)|((with_reducible refine gD 3 ?_);refine gB (cs:=#[.int .i64 a1_0, .string a1_1]) 84 ?_;intro gb132 hg w16 hbox hb;have BK132:=am (hbox);have GW132:=ye HB hg;replace HB:=yH HB hb;have NB131_132:=yl BK131 hg;have NB132_131:=yg BK131 hg;replace BK131:=yb BK131 hb;have GE132:=GW132;clear hb hbox hg;have hnb17:=NB131_132.out;have hnc17:=NB132_131.out;obtain ⟨hcz18_0,hcz18_1,hfz18_0,hfz18_1⟩:=yk2 BK131;obtain ⟨hcz19_0,hcz19_1,hfz19_0,hfz19_1⟩:=yk2 BK132))
 go_ret
 exact ⟨D1,yW HB⟩

def laws_eqShardS.l0:Nat→List (S84)→List (S84)→Int→Option (Bool)
 | 0,_,_,_=>none
 | k+1,x0,x1,x5=>if x5 < (x0.length:Int) then (if 0≤x5 then (if x5 < (x1.length:Int) then ((laws_eqShard.f ((rd_T84 x0 x5).f0) ((rd_T84 x0 x5).f1) ((rd_T84 x1 x5).f0) ((rd_T84 x1 x5).f1)).bind fun t135=>(if t135=true then (laws_eqShardS.l0 k x0 x1 (wrap64 (x5+1))) else (some false))) else (none)) else (none)) else (some true)
def laws_eqShardS.f (k:Nat) (l0:List (S84)) (l1:List (S84)):Option (Bool):=if (l0.length:Int)=(l1.length:Int) then (laws_eqShardS.l0 k l0 l1 0) else (some false)
theorem laws_eqShardS.mono_l:∀ k,(∀ y0 y1 y2,LeO (laws_eqShardS.l0 k y0 y1 y2) (laws_eqShardS.l0 (k+1) y0 y1 y2))
 | 0=>fun _ _ _ r h=>by simp [laws_eqShardS.l0] at h
 | k+1=>by
  have ih0:=laws_eqShardS.mono_l k
  intro y0 y1 y2
  unfold laws_eqShardS.l0
  exact mm
theorem laws_eqShardS.mono:∀ a0 a1 k,LeO (laws_eqShardS.f k a0 a1) (laws_eqShardS.f (k+1) a0 a1):=by
 intro a0 a1 k
 have ih0:=laws_eqShardS.mono_l k
 unfold laws_eqShardS.f
 exact mm
def laws_eqShardS.T6:Bool × List (List Nat × List Nat):=(true,[([],[]),([],[]),([0,1],[0,1]),([2],[2]),([],[]),([],[]),([4,5],[4,5]),([6],[6]),([3,7],[3,7]),([8],[8])])
def laws_eqShardS.B6:List Nat:=[0,0,3,7,0,0,48,112,255,511]
theorem laws_eqShardS.tab6:rtab .any (opsOf Try.f58 6)=laws_eqShardS.T6:=by kernel_rfl
theorem laws_eqShardS.bits6:waitsOk laws_eqShardS.T6.2 laws_eqShardS.B6=true:=by kernel_rfl
theorem laws_eqShardS.calls (k:Nat) (A0:Option Addr) (c0:Nat) (l0:List (S84)) (A1:Option Addr) (c1:Nat) (l1:List (S84)) (r:Bool) (w:World) (hr0:Kd.C k84 w A0 l0.length l0) (hc0:l0.length≤c0) (hr1:Kd.C k84 w A1 l1.length l1) (hc1:l1.length≤c1) (h:laws_eqShardS.f k l0 l1=some r) :
  Calls Try.prog 58 #[.slice A0 l0.length c0, .slice A1 l1.length c1] w fun e w'=>e = .returned (.bool r)∧Below w.heap.size w w':=by
 have hu84:=Try.underlying84
 have HR0:=am hr0
 have HC0:=am hc0
 clear hr0 hc0
 have HR1:=am hr1
 have HC1:=am hc1
 clear hr1 hc1
 have HB:=am (Below.refl w.heap.size w)
 have H:=h
 unfold laws_eqShardS.f at H
 clear h
 by_cases c3:(l0.length:Int)=(l1.length:Int)
 ·rw [if_pos c3] at H
  have c3b0:((l0.length:Int) == (l1.length:Int))=true:=beq_iff_eq.mpr c3
  have c3b1:((l0.length:Int) != (l1.length:Int))=false:=bne_eq_false_iff_eq.mpr c3
  have c3b2:(l0.length == l1.length)=true:=by first|simpa using c3|(simp at c3 ⊢;omega)
  clear c3
  have H':=am H
  clear H
  go_enter Try.func58,Try.ntmps58
  go_wp2
  go_loopg [5] k (fun kq v5 w'=>∃ (x5_1:Int),v5 = .int .i64 x5_1∧Aside0 (laws_eqShardS.l0 kq l0 l1 x5_1=some r)∧Aside0 (kq≤k)∧Aside0 (Below w.heap.size w w'))
  case atStart=>exact ⟨(0),D2,H',⟨Nat.le_refl _⟩,⟨yW HB⟩⟩
  case round =>
   clear H'
   try clear c1
   try clear p2
   try clear c3
   try clear c3b0
   try clear c3b1
   try clear c3b2
   obtain ⟨x5_1,rfl,HA,HK1,HB⟩:=hrel
   cases gk with
   | zero=>exact absurd HA.out (by simp [laws_eqShardS.l0])
   | succ k1 =>
    have H:=HA.out
    clear HA
    simp only [laws_eqShardS.l0] at H
    by_cases c4:x5_1 < (l0.length:Int)
    ·rw [if_pos c4] at H
     have c4b0:=decide_eq_true c4
     clear c4
     obtain ⟨c5,H⟩:=yi H
     have c5b0:=decide_eq_true c5
     clear c5
     obtain ⟨c6,H⟩:=yi H
     have c6b0:=decide_eq_true c6
     clear c6
     obtain ⟨t135,A7,H⟩:=yo H
     by_cases c8:t135=true
     ·subst c8
      replace H:=yt H
      have H':=am H
      clear H
      try go_wp2
      replace HB:=am (pd HB.out)
      have p133:0≤(x5_1:Int):=od D0
      have q133:x5_1 < (l0.length:Int):=od D0
      obtain ⟨ad133,e133,hx133_0,hx133_1⟩:=at_T84 HR0.out x5_1 p133 q133
      have hw133_1:=hx133_1
      have hw133_0:=hx133_0
      cases e133
      replace hx133_0:=(HB.out.cell (World.block_lt_of_cell? w _ hx133_0)).trans hx133_0
      replace hx133_1:=(HB.out.cell (World.block_lt_of_cell? w _ hx133_1)).trans hx133_1
      replace p133:=eq_true p133
      replace q133:=eq_true q133
      have p134:0≤(x5_1:Int):=od D0
      have q134:x5_1 < (l1.length:Int):=od D0
      obtain ⟨ad134,e134,hx134_0,hx134_1⟩:=at_T84 HR1.out x5_1 p134 q134
      have hw134_1:=hx134_1
      have hw134_0:=hx134_0
      cases e134
      replace hx134_0:=(HB.out.cell (World.block_lt_of_cell? w _ hx134_0)).trans hx134_0
      replace hx134_1:=(HB.out.cell (World.block_lt_of_cell? w _ hx134_1)).trans hx134_1
      replace p134:=eq_true p134
      replace q134:=eq_true q134
      refine rS (n:=10) (S:=fun w'=>w'.cell? (ad133.add ((x5_1).toNat*2))=some (.int .i64 ((rd_T84 l0 x5_1).f0))∧w'.cell? ⟨(ad133.add ((x5_1).toNat*2)).block,(ad133.add ((x5_1).toNat*2)).off+1,none⟩=some (.string ((rd_T84 l0 x5_1).f1))∧w'.cell? (ad134.add ((x5_1).toNat*2))=some (.int .i64 ((rd_T84 l1 x5_1).f0))∧w'.cell? ⟨(ad134.add ((x5_1).toNat*2)).block,(ad134.add ((x5_1).toNat*2)).off+1,none⟩=some (.string ((rd_T84 l1 x5_1).f1))) (ds:=[]) [(0,17),(1,18),(2,19),(4,21),(5,22),(6,23),(3,20),(7,24),(8,0),(9,26)] D3 rfl laws_eqShardS.tab6 laws_eqShardS.bits6 ⟨((HB.out.cell (World.block_lt_of_cell? w _ hw133_0)).trans hw133_0),((HB.out.cell (World.block_lt_of_cell? w _ hw133_1)).trans hw133_1),((HB.out.cell (World.block_lt_of_cell? w _ hw134_0)).trans hw134_0),((HB.out.cell (World.block_lt_of_cell? w _ hw134_1)).trans hw134_1)⟩ (fun hHeld HT_ HW_=>?_)
      generalize wr.drew=w9 at HB hx133_0 hx133_1 hx134_0 hx134_1 hHeld ⊢
      refine rR ?_
      refine rO (N:=some 25) HT_ rfl rfl D3 D4 (fun K hK=>?_)
      refine goes_ Try.func57 D3 rfl #[.agg #[.int .i64 ((rd_T84 l0 x5_1).f0), .string ((rd_T84 l0 x5_1).f1)], .agg #[.int .i64 ((rd_T84 l1 x5_1).f0), .string ((rd_T84 l1 x5_1).f1)]] D11 rfl rfl D8 ?_
      with_reducible refine (laws_eqShard.calls ((rd_T84 l0 x5_1).f0) ((rd_T84 l0 x5_1).f1) ((rd_T84 l1 x5_1).f0) ((rd_T84 l1 x5_1).f1) true _ A7.out).mono ?_
      rintro e w10 ⟨rfl,hb⟩
      refine ⟨_,rfl,?_⟩
      replace HB:=yH HB hb
      (try clear hb)
      (try clear hb2)
      (try clear hk)
      (try clear hi)
      refine hK.out _ _ ⟨((HB.out.cell (World.block_lt_of_cell? w _ hw133_0)).trans hw133_0),((HB.out.cell (World.block_lt_of_cell? w _ hw133_1)).trans hw133_1),((HB.out.cell (World.block_lt_of_cell? w _ hw134_0)).trans hw134_0),((HB.out.cell (World.block_lt_of_cell? w _ hw134_1)).trans hw134_1)⟩ (fun hHeld=>?_)
      clear hK K
      refine rN (a':=?_) ?_ ?_
      rotate_left
      ·show Act.put _ (some 25) _=_
       simp only [Act.put,q1,q2,q3,i64_w,i32_w]
       rfl
      refine rR ?_
      refine rD HT_ D3 ?_
      try go_wp2
      go_roundg k1
      case measure=>have:=HK1.out;omega
      case rel=>exact ⟨(wrap64 (x5_1+1)),D2,H',⟨D17⟩,⟨yW HB⟩⟩
     replace c8:=Bool.eq_false_iff.mpr c8
     subst c8
     replace H:=yn H
     obtain rfl:=Option.some.inj H
     try go_wp2
     replace HB:=am (pd HB.out)
     have p133:0≤(x5_1:Int):=od D0
     have q133:x5_1 < (l0.length:Int):=od D0
     obtain ⟨ad133,e133,hx133_0,hx133_1⟩:=at_T84 HR0.out x5_1 p133 q133
     have hw133_1:=hx133_1
     have hw133_0:=hx133_0
     cases e133
     replace hx133_0:=(HB.out.cell (World.block_lt_of_cell? w _ hx133_0)).trans hx133_0
     replace hx133_1:=(HB.out.cell (World.block_lt_of_cell? w _ hx133_1)).trans hx133_1
     replace p133:=eq_true p133
     replace q133:=eq_true q133
     have p134:0≤(x5_1:Int):=od D0
     have q134:x5_1 < (l1.length:Int):=od D0
     obtain ⟨ad134,e134,hx134_0,hx134_1⟩:=at_T84 HR1.out x5_1 p134 q134
     have hw134_1:=hx134_1
     have hw134_0:=hx134_0
     cases e134
     replace hx134_0:=(HB.out.cell (World.block_lt_of_cell? w _ hx134_0)).trans hx134_0
     replace hx134_1:=(HB.out.cell (World.block_lt_of_cell? w _ hx134_1)).trans hx134_1
     replace p134:=eq_true p134
     replace q134:=eq_true q134
     refine rS (n:=10) (S:=fun w'=>w'.cell? (ad133.add ((x5_1).toNat*2))=some (.int .i64 ((rd_T84 l0 x5_1).f0))∧w'.cell? ⟨(ad133.add ((x5_1).toNat*2)).block,(ad133.add ((x5_1).toNat*2)).off+1,none⟩=some (.string ((rd_T84 l0 x5_1).f1))∧w'.cell? (ad134.add ((x5_1).toNat*2))=some (.int .i64 ((rd_T84 l1 x5_1).f0))∧w'.cell? ⟨(ad134.add ((x5_1).toNat*2)).block,(ad134.add ((x5_1).toNat*2)).off+1,none⟩=some (.string ((rd_T84 l1 x5_1).f1))) (ds:=[]) [(0,17),(1,18),(2,19),(4,21),(5,22),(6,23),(3,20),(7,24),(8,0),(9,26)] D3 rfl laws_eqShardS.tab6 laws_eqShardS.bits6 ⟨((HB.out.cell (World.block_lt_of_cell? w _ hw133_0)).trans hw133_0),((HB.out.cell (World.block_lt_of_cell? w _ hw133_1)).trans hw133_1),((HB.out.cell (World.block_lt_of_cell? w _ hw134_0)).trans hw134_0),((HB.out.cell (World.block_lt_of_cell? w _ hw134_1)).trans hw134_1)⟩ (fun hHeld HT_ HW_=>?_)
     generalize wr.drew=w11 at HB hx133_0 hx133_1 hx134_0 hx134_1 hHeld ⊢
     refine rR ?_
     refine rO (N:=some 25) HT_ rfl rfl D3 D4 (fun K hK=>?_)
     refine goes_ Try.func57 D3 rfl #[.agg #[.int .i64 ((rd_T84 l0 x5_1).f0), .string ((rd_T84 l0 x5_1).f1)], .agg #[.int .i64 ((rd_T84 l1 x5_1).f0), .string ((rd_T84 l1 x5_1).f1)]] D11 rfl rfl D8 ?_
     with_reducible refine (laws_eqShard.calls ((rd_T84 l0 x5_1).f0) ((rd_T84 l0 x5_1).f1) ((rd_T84 l1 x5_1).f0) ((rd_T84 l1 x5_1).f1) false _ A7.out).mono ?_
     rintro e w12 ⟨rfl,hb⟩
     refine ⟨_,rfl,?_⟩
     replace HB:=yH HB hb
     (try clear hb)
     (try clear hb2)
     (try clear hk)
     (try clear hi)
     refine hK.out _ _ ⟨((HB.out.cell (World.block_lt_of_cell? w _ hw133_0)).trans hw133_0),((HB.out.cell (World.block_lt_of_cell? w _ hw133_1)).trans hw133_1),((HB.out.cell (World.block_lt_of_cell? w _ hw134_0)).trans hw134_0),((HB.out.cell (World.block_lt_of_cell? w _ hw134_1)).trans hw134_1)⟩ (fun hHeld=>?_)
     clear hK K
     refine rN (a':=?_) ?_ ?_
     rotate_left
     ·show Act.put _ (some 25) _=_
      simp only [Act.put,q1,q2,q3,i64_w,i32_w]
      rfl
     refine rR ?_
     refine rD HT_ D3 ?_
     try go_wp2
     go_ret
     exact ⟨D1,yW HB⟩
    rw [if_neg c4] at H
    have c4b0:=decide_eq_false c4
    clear c4
    obtain rfl:=Option.some.inj H
    go_wp2
    go_ret
    exact ⟨D1,yW HB⟩
 rw [if_neg c3] at H
 have c3b0:((l0.length:Int) == (l1.length:Int))=false:=beq_eq_false_iff_ne.mpr c3
 have c3b1:((l0.length:Int) != (l1.length:Int))=true:=bne_iff_ne.mpr c3
 have c3b2:(l0.length == l1.length)=false:=by first|simpa using c3|(simp at c3 ⊢;omega)
 obtain rfl:=Option.some.inj H
 go_enter Try.func58,Try.ntmps58
 go_wp2
 go_ret
 exact ⟨D1,yW HB⟩

def laws_eqStringS.l0:Nat→List ByteArray→List ByteArray→Int→Option (Bool)
 | 0,_,_,_=>none
 | k+1,x0,x1,x5=>if x5 < (x0.length:Int) then (if 0≤x5 then (if x5 < (x1.length:Int) then (if (rdOf ByteArray.empty x0 x5).toList=(rdOf ByteArray.empty x1 x5).toList then (laws_eqStringS.l0 k x0 x1 (wrap64 (x5+1))) else (some false)) else (none)) else (none)) else (some true)
def laws_eqStringS.f (k:Nat) (l0:List ByteArray) (l1:List ByteArray):Option (Bool):=if (l0.length:Int)=(l1.length:Int) then (laws_eqStringS.l0 k l0 l1 0) else (some false)
theorem laws_eqStringS.mono_l:∀ k,(∀ y0 y1 y2,LeO (laws_eqStringS.l0 k y0 y1 y2) (laws_eqStringS.l0 (k+1) y0 y1 y2))
 | 0=>fun _ _ _ r h=>by simp [laws_eqStringS.l0] at h
 | k+1=>by
  have ih0:=laws_eqStringS.mono_l k
  intro y0 y1 y2
  unfold laws_eqStringS.l0
  exact mm
theorem laws_eqStringS.mono:∀ a0 a1 k,LeO (laws_eqStringS.f k a0 a1) (laws_eqStringS.f (k+1) a0 a1):=by
 intro a0 a1 k
 have ih0:=laws_eqStringS.mono_l k
 unfold laws_eqStringS.f
 exact mm
theorem laws_eqStringS.calls (k:Nat) (A0:Option Addr) (c0:Nat) (l0:List ByteArray) (A1:Option Addr) (c1:Nat) (l1:List ByteArray) (r:Bool) (w:World) (hr0:Kd.C Kd.string w A0 l0.length l0) (hc0:l0.length≤c0) (hr1:Kd.C Kd.string w A1 l1.length l1) (hc1:l1.length≤c1) (h:laws_eqStringS.f k l0 l1=some r) :
  Calls Try.prog 63 #[.slice A0 l0.length c0, .slice A1 l1.length c1] w fun e w'=>e = .returned (.bool r)∧Drawn0 w w':=by
 have HR0:=am hr0
 have HC0:=am hc0
 clear hr0 hc0
 have HR1:=am hr1
 have HC1:=am hc1
 clear hr1 hc1
 have H:=h
 unfold laws_eqStringS.f at H
 clear h
 by_cases c3:(l0.length:Int)=(l1.length:Int)
 ·rw [if_pos c3] at H
  have c3b0:((l0.length:Int) == (l1.length:Int))=true:=beq_iff_eq.mpr c3
  have c3b1:((l0.length:Int) != (l1.length:Int))=false:=bne_eq_false_iff_eq.mpr c3
  have c3b2:(l0.length == l1.length)=true:=by first|simpa using c3|(simp at c3 ⊢;omega)
  clear c3
  have H':=am H
  clear H
  go_enter Try.func63,Try.ntmps63
  go_wp2
  repeat (go_quiet (fail);try go_wp2)
  go_loopg [5] k (fun kq v5 w'=>∃ (x5_1:Int),v5 = .int .i64 x5_1∧Aside0 (laws_eqStringS.l0 kq l0 l1 x5_1=some r)∧Aside0 (kq≤k)∧Drawn0 w w')
  case atStart=>exact ⟨(0),D2,H',⟨Nat.le_refl _⟩,D6⟩
  case round =>
   clear H'
   try clear c1
   try clear p2
   try clear c3
   try clear c3b0
   try clear c3b1
   try clear c3b2
   obtain ⟨x5_1,rfl,HA,HK1,⟨m1,rfl⟩⟩:=hrel
   cases gk with
   | zero=>exact absurd HA.out (by simp [laws_eqStringS.l0])
   | succ k1 =>
    have H:=HA.out
    clear HA
    simp only [laws_eqStringS.l0] at H
    by_cases c4:x5_1 < (l0.length:Int)
    ·rw [if_pos c4] at H
     have c4b0:=decide_eq_true c4
     clear c4
     obtain ⟨c5,H⟩:=yi H
     have c5b0:=decide_eq_true c5
     clear c5
     obtain ⟨c6,H⟩:=yi H
     have c6b0:=decide_eq_true c6
     clear c6
     by_cases c7:(rdOf ByteArray.empty l0 x5_1).toList=(rdOf ByteArray.empty l1 x5_1).toList
     ·rw [if_pos c7] at H
      have c7b0:((rdOf ByteArray.empty l0 x5_1).toList == (rdOf ByteArray.empty l1 x5_1).toList)=true:=beq_iff_eq.mpr c7
      have c7b1:((rdOf ByteArray.empty l0 x5_1).toList != (rdOf ByteArray.empty l1 x5_1).toList)=false:=bne_eq_false_iff_eq.mpr c7
      clear c7
      have H':=am H
      clear H
      have p136:0≤(x5_1:Int):=od D0
      have q136:x5_1 < (l0.length:Int):=od D0
      obtain ⟨ad136,e136,hx136_0⟩:=Kd.at_string HR0.out x5_1 p136 q136
      cases e136
      replace p136:=eq_true p136
      replace q136:=eq_true q136
      have p137:0≤(x5_1:Int):=od D0
      have q137:x5_1 < (l1.length:Int):=od D0
      obtain ⟨ad137,e137,hx137_0⟩:=Kd.at_string HR1.out x5_1 p137 q137
      cases e137
      replace p137:=eq_true p137
      replace q137:=eq_true q137
      go_wp2
      repeat (go_quiet (fail);try go_wp2)
      go_roundg k1
      case measure=>have:=HK1.out;omega
      case rel=>exact ⟨(wrap64 (x5_1+1)),D2,H',⟨D17⟩,D6⟩
     rw [if_neg c7] at H
     have c7b0:((rdOf ByteArray.empty l0 x5_1).toList == (rdOf ByteArray.empty l1 x5_1).toList)=false:=beq_eq_false_iff_ne.mpr c7
     have c7b1:((rdOf ByteArray.empty l0 x5_1).toList != (rdOf ByteArray.empty l1 x5_1).toList)=true:=bne_iff_ne.mpr c7
     obtain rfl:=Option.some.inj H
     have p136:0≤(x5_1:Int):=od D0
     have q136:x5_1 < (l0.length:Int):=od D0
     obtain ⟨ad136,e136,hx136_0⟩:=Kd.at_string HR0.out x5_1 p136 q136
     cases e136
     replace p136:=eq_true p136
     replace q136:=eq_true q136
     have p137:0≤(x5_1:Int):=od D0
     have q137:x5_1 < (l1.length:Int):=od D0
     obtain ⟨ad137,e137,hx137_0⟩:=Kd.at_string HR1.out x5_1 p137 q137
     cases e137
     replace p137:=eq_true p137
     replace q137:=eq_true q137
     go_wp2
     repeat (go_quiet (fail);try go_wp2)
     go_ret
     exact ⟨D2,D6⟩
    rw [if_neg c4] at H
    have c4b0:=decide_eq_false c4
    clear c4
    obtain rfl:=Option.some.inj H
    go_wp2
    repeat (go_quiet (fail);try go_wp2)
    go_ret
    exact ⟨D2,D6⟩
 rw [if_neg c3] at H
 have c3b0:((l0.length:Int) == (l1.length:Int))=false:=beq_eq_false_iff_ne.mpr c3
 have c3b1:((l0.length:Int) != (l1.length:Int))=true:=bne_iff_ne.mpr c3
 have c3b2:(l0.length == l1.length)=false:=by first|simpa using c3|(simp at c3 ⊢;omega)
 obtain rfl:=Option.some.inj H
 go_enter Try.func63,Try.ntmps63
 go_wp2
 repeat (go_quiet (fail);try go_wp2)
 go_ret
 exact ⟨D2,D6⟩

def laws_markText.l0:Nat→Int→ByteArray→Option (ByteArray)
 | 0,_,_=>none
 | k+1,x0,x3=>if x0 > 0 then ((some (([(wrap64 (48+(Int.tmod x0 10))) % 256]:List Int):List Int)).bind fun y138=>(if (strOfNums y138).size+x3.size≤9223372036854775807 then (laws_markText.l0 k (wrap64 (Int.tdiv x0 10)) ((strOfNums y138) ++ x3)) else (none))) else (if 1+x3.size≤9223372036854775807 then (some ((⟨#[109]⟩:ByteArray) ++ x3)) else (none))
def laws_markText.f (k:Nat) (a0:Int):Option (ByteArray):=if a0≤0 then (some (⟨#[109,48]⟩:ByteArray)) else (laws_markText.l0 k a0 (⟨#[]⟩:ByteArray))
theorem laws_markText.mono_l:∀ k,(∀ y0 y1,LeO (laws_markText.l0 k y0 y1) (laws_markText.l0 (k+1) y0 y1))
 | 0=>fun _ _ r h=>by simp [laws_markText.l0] at h
 | k+1=>by
  have ih0:=laws_markText.mono_l k
  intro y0 y1
  unfold laws_markText.l0
  exact mm
theorem laws_markText.mono:∀ a0 k,LeO (laws_markText.f k a0) (laws_markText.f (k+1) a0):=by
 intro a0 k
 have ih0:=laws_markText.mono_l k
 unfold laws_markText.f
 exact mm
theorem laws_markText.calls (k:Nat) (a0:Int) (r:ByteArray) (w:World) (h:laws_markText.f k a0=some r) :
  Calls Try.prog 147 #[.int .i64 a0] w fun e w'=>e = .returned (.string r)∧Below w.heap.size w w':=by
 have HB:=am (Below.refl w.heap.size w)
 have H:=h
 unfold laws_markText.f at H
 clear h
 by_cases c2:a0≤0
 ·rw [if_pos c2] at H
  have c2b0:=decide_eq_true c2
  clear c2
  obtain rfl:=Option.some.inj H
  go_enter Try.func147,Try.ntmps147
  go_wp2
  go_ret
  exact ⟨D1,yW HB⟩
 rw [if_neg c2] at H
 have c2b0:=decide_eq_false c2
 clear c2
 have H':=am H
 clear H
 go_enter Try.func147,Try.ntmps147
 go_wp2
 go_loopg [0,3] k (fun kq v0 v3 w'=>∃ (x0_1:Int) (x3_1:ByteArray),v0 = .int .i64 x0_1∧v3 = .string x3_1∧Aside0 (laws_markText.l0 kq x0_1 x3_1=some r)∧Aside0 (kq≤k)∧Aside0 (Below w.heap.size w w'))
 case atStart=>exact ⟨(a0),((⟨#[]⟩:ByteArray)),D2,D2,H',⟨Nat.le_refl _⟩,⟨yW HB⟩⟩
 case round =>
  clear H'
  try clear c1
  try clear c2
  try clear c2b0
  try clear p2
  obtain ⟨x0_1,x3_1,rfl,rfl,HA,HK1,HB⟩:=hrel
  cases gk with
  | zero=>exact absurd HA.out (by simp [laws_markText.l0])
  | succ k1 =>
   have H:=HA.out
   clear HA
   simp only [laws_markText.l0] at H
   by_cases c3:x0_1 > 0
   ·rw [if_pos c3] at H
    have c3b0:decide (0 < x0_1)=true:=decide_eq_true c3
    clear c3
    obtain ⟨y138,hy138,H⟩:=ys H
    have Ny138:=am hy138
    clear hy138
    obtain ⟨c4,H⟩:=yi H
    have c4b0:=eq_true c4
    have c4b1:decide ((strOfNums y138).size+x3_1.size≤9223372036854775807)=true:=decide_eq_true c4
    try have c4b2:(9223372036854775807 < (strOfNums y138).size+x3_1.size)=False:=eq_false (Nat.not_lt.2 c4)
    have H':=am H
    clear H
    go_wp2_with (first|((with_reducible refine gD 12 ?_);refine Kd.R_lit (Kd.int .u8) _ 5 D11 (N:=12) D11 (xs:=([(wrap64 (48+(Int.tmod x0_1 10))) % 256]:List Int)) (inner:=[.int .u8 ((wrap64 (48+(Int.tmod x0_1 10))) % 256)]) (ok:=fun _=>True) (okp:=fun _=>True) D16 (by exact (Reps.one (show Kd.M (Kd.int .u8) _ _ _ ((wrap64 (48+(Int.tmod x0_1 10))) % 256) [.int .u8 ((wrap64 (48+(Int.tmod x0_1 10))) % 256)] from rfl) (Reps.none _ _))) (fun _ hk=>hk) trivial (Below.refl _ _) (Nat.le_refl _) D36 ?_;intro v139 w5 ho6 hb hg_ hnew_;clear hg_ hnew_;(first|rw [← Ny138.out] at ho6|(simp only [Int.reduceToNat] at ho6;rw [← Ny138.out] at ho6));have HO140:=am (Kd.R_lower ho6 (pz (yW HB)));replace HB:=yH HB hb;clear hb ho6;have hcv7:=own_string (P:=Try.prog) Try.underlying57 Try.underlying5 Try.underlying9 (Kd.own_of_R HO140.out)))
    go_roundg k1
    case measure=>have:=HK1.out;omega
    case rel=>exact ⟨(wrap64 (Int.tdiv x0_1 10)),((strOfNums y138) ++ x3_1),D2,D2,H',⟨D17⟩,⟨yW HB⟩⟩
   rw [if_neg c3] at H
   have c3b0:decide (0 < x0_1)=false:=decide_eq_false c3
   clear c3
   by_cases c8:1+x3_1.size≤9223372036854775807
   ·rw [if_pos c8] at H
    have c8b0:=eq_true c8
    have c8b1:decide (1+x3_1.size≤9223372036854775807)=true:=decide_eq_true c8
    try have c8b2:(9223372036854775807 < 1+x3_1.size)=False:=eq_false (Nat.not_lt.2 c8)
    obtain rfl:=Option.some.inj H
    go_wp2
    go_ret
    exact ⟨D1,yW HB⟩
   rw [if_neg c8] at H
   exact absurd H D36
def laws_markShardS.l0:Nat→List (S84)→Int→Int→Option (Int × (List (S84)))
 | 0,_,_,_=>none
 | k+1,x0,x1,x5=>if x5 < (x0.length:Int) then (if 0≤x5 then ((some (x0.set (x5:Int).toNat (⟨x1,(rd_T84 x0 x5).f1⟩:S84):List (S84))).bind fun y141=>((laws_markText.f k (wrap64 (x1+1))).bind fun t142=>(laws_markShardS.l0 k (y141.set (x5:Int).toNat (⟨(rd_T84 y141 x5).f0,t142⟩:S84)) (wrap64 ((wrap64 (x1+1))+1)) (wrap64 (x5+1))))) else (none)) else (some (x1,x0))
def laws_markShardS.f (k:Nat) (l0:List (S84)) (a1:Int):Option (Int × (List (S84))):=laws_markShardS.l0 k l0 a1 0
theorem laws_markShardS.mono_l:∀ k,(∀ y0 y1 y2,LeO (laws_markShardS.l0 k y0 y1 y2) (laws_markShardS.l0 (k+1) y0 y1 y2))
 | 0=>fun _ _ _ r h=>by simp [laws_markShardS.l0] at h
 | k+1=>by
  have ih0:=laws_markShardS.mono_l k
  intro y0 y1 y2
  unfold laws_markShardS.l0
  exact mm
theorem laws_markShardS.mono:∀ a0 a1 k,LeO (laws_markShardS.f k a0 a1) (laws_markShardS.f (k+1) a0 a1):=by
 intro a0 a1 k
 have ih0:=laws_markShardS.mono_l k
 unfold laws_markShardS.f
 exact mm
theorem laws_markShardS.calls (k:Nat) (P0_:Nat→Prop) (u9000_:Value) (l0:List (S84)) (a1:Int) (r1:Int) (r2:List (S84)) (w0 w:World) (hB:Below w0.heap.size w0 w) (ho0:Kd.R k84 84 w w0.heap.size P0_ u9000_ l0) (h:laws_markShardS.f k l0 a1=some (r1,r2)) :
  Calls Try.prog 64 #[u9000_, .int .i64 a1] w fun e w'=>e = .returned (.int .i64 r1)∧Kd.R k84 84 w' w0.heap.size (fun k_=>(P0_ k_∨w.heap.size≤k_)) u9000_ r2∧Below w0.heap.size w0 w'∧Kept w w' (fun k_=>P0_ k_):=by
 have HO0:=am (show Kd.R k84 84 w w0.heap.size (fun k_=>(P0_ k_∨w.heap.size≤k_)) u9000_ l0 from Kd.R_mono ho0 (fun k_ hk=>(.inl hk)))
 have HK:=am (Kept.refl w (fun k_=>P0_ k_))
 have HW0:=am hB.size
 have HB:=am hB
 clear hB
 have H:=h
 unfold laws_markShardS.f at H
 clear h
 have H':=am H
 clear H
 go_enter Try.func64,Try.ntmps64
 go_wp2
 go_loopg [1,5] k (fun kq v1 v5 w'=>∃ (x0_1:List (S84)) (x1_1:Int) (x5_1:Int),v1 = .int .i64 x1_1∧v5 = .int .i64 x5_1∧Aside0 (laws_markShardS.l0 kq x0_1 x1_1 x5_1=some (r1,r2))∧Aside0 (kq≤k)∧Aside0 (Kd.R k84 84 w' w0.heap.size (fun k_=>(P0_ k_∨w.heap.size≤k_)) u9000_ x0_1)∧Aside0 (Kept w w' (fun k_=>P0_ k_))∧Aside0 (Below w0.heap.size w0 w'))
 case atStart=>exact ⟨(l0),(a1),(0),D2,D2,H',⟨Nat.le_refl _⟩,⟨yR HO0⟩,⟨D13⟩,⟨yW HB⟩⟩
 case round =>
  clear H'
  try clear p2
  obtain ⟨x0_1,x1_1,x5_1,rfl,rfl,HA,HK1,HO_0,HK,HB⟩:=hrel
  cases gk with
  | zero=>exact absurd HA.out (by simp [laws_markShardS.l0])
  | succ k1 =>
   have H:=HA.out
   clear HA
   simp only [laws_markShardS.l0] at H
   by_cases c3:x5_1 < (x0_1.length:Int)
   ·rw [if_pos c3] at H
    have c3b0:=decide_eq_true c3
    clear c3
    obtain ⟨c4,H⟩:=yi H
    have c4b0:=decide_eq_true c4
    clear c4
    obtain ⟨y141,hy141,H⟩:=ys H
    have Ny141:=am hy141
    clear hy141
    obtain ⟨t142,A6,H⟩:=yo H
    generalize hy143:(y141.set (x5_1:Int).toNat (⟨(rd_T84 y141 x5_1).f0,t142⟩:S84):List (S84))=y143 at H
    have Ny143:=am hy143.symm
    clear hy143
    have H':=am H
    clear H
    obtain ⟨Ao8,co8,eo8⟩:=Kd.R_slice HO_0.out
    subst eo8
    have p5:0≤(x5_1:Int):=od D0
    have q5:(x5_1:Int) < ((x0_1.length:Int):Int):=od D0
    obtain ⟨go5,co5,eo5,gb5,gl5,cl5,HG5⟩:=Kd.R_form HO_0.out D5
    (first|cases eo5|(injection eo5 with ea_ en_ ec_;(first|subst ea_|(injection ea_ with ea_;subst ea_));subst ec_;clear en_))
    have GB5:=am gb5
    have GG5:=am HG5
    clear gb5 gl5 HG5
    have HMgo5:=am (show (P0_ go5∨w.heap.size≤go5) from (HO_0.out.1 _ rfl))
    obtain ⟨ce5,hcl5,hM5,hcc5,hfr5⟩:=Kd.R_elem HO_0.out z84 (x5_1:Int) p5 q5
    obtain rfl:=k84_openM hM5
    have hx5_0:wr.cell? ⟨go5,(x5_1:Int).toNat*2,none⟩=some (.int .i64 ((rd_T84 x0_1 x5_1).f0)):=hcc5 0 _ rfl
    have hx5_1:wr.cell? ⟨go5,(x5_1:Int).toNat*2+1,none⟩=some (.string ((rd_T84 x0_1 x5_1).f1)):=hcc5 1 _ rfl
    have hf5_0:wr.frozen? ⟨go5,(x5_1:Int).toNat*2,none⟩=false:=hfr5 0
    have hf5_1:wr.frozen? ⟨go5,(x5_1:Int).toNat*2+1,none⟩=false:=hfr5 1
    clear hcl5 hcc5 hfr5 hM5
    replace p5:=eq_true p5
    replace q5:=eq_true q5
    have HX9:=am (show Kd.R k84 84 wr w0.heap.size (fun k_=>(P0_ k_∨w.heap.size≤k_)) (.slice (some ⟨go5,0,none⟩) x0_1.length co8) x0_1 from (yR HO_0))
    obtain ⟨ce9,hcl9,hM9,hcc9,hfr9⟩:=Kd.R_elem HX9.out z84 (x5_1:Int) (od D0) (by have h_:(x5_1:Int) < ((x0_1.length:Int):Int):=od D0;first|exact h_|(have e_:=(Kd.R_reads' HO_0.out).1;omega)|simpa using h_)
    obtain rfl:=k84_openM hM9
    have HP9:=Kd.R_seg HX9.out (x5_1:Int) (od D0) (by have h_:(x5_1:Int) < ((x0_1.length:Int):Int):=od D0;first|exact h_|(have e_:=(Kd.R_reads' HO_0.out).1;omega)|simpa using h_) (seg:=[.int .i64 x1_1]) (j:=0) hcl9 hcc9 (show 1≤2 from by decide) (x':=(⟨x1_1,(rd_T84 x0_1 x5_1).f1⟩:S84)) (k84_mkM _ _ _ (⟨x1_1,(rd_T84 x0_1 x5_1).f1⟩:S84) ) (fun _ hk=>hk)
    have hx9_0:=hcc9 0 _ rfl
    (try simp only [show (k84).sz=2 from rfl,Nat.mul_one,Nat.add_zero] at hx9_0)
    have hf9_0:=hfr9 0
    (try simp only [show (k84).sz=2 from rfl,Nat.mul_one,Nat.add_zero] at hf9_0)
    clear hcl9 hcc9 hfr9 hM9
    go_wp2_with (first|((with_reducible refine gate_store (t:=3) (p:=16) rfl ?_);refine store_event (t:=3) (p:=16) (v:=?vo_w10) (w1:=(wr.setCell ⟨go5,(x5_1:Int).toNat*2,none⟩ (.int .i64 x1_1))) ?hg ?ho ?hn ?hr ?_;(case ho=>rfl);(case hg=>rfl);(case hn=>rfl);(case hr=>first|(go_simp;done)|(go_simp;rfl));intro w10 hw;have hg:wr.grownBy w10 (some go5):=(by rw [hw];exact HP9.2);have hp_:Kd.R k84 84 w10 w0.heap.size (fun k_=>(P0_ k_∨w.heap.size≤k_)) (.slice (some ⟨go5,0,none⟩) x0_1.length co8) y141:=(by rw [hw,Ny141.out];exact HP9.1);clear HP9;replace HB:=am ((by rw [hw];exact pt (HB.out) GB5.out:Below w0.heap.size w0 w10));replace HK:=am (Kept.of_grown (S:=(fun k_=>P0_ k_)) hg D13 (fun k_ e_=>(HO_0.out.1 k_ e_)));replace HO_0:=am (hp_);clear hg hw hp_)|((with_reducible refine gC 147 ?_);refine gM (some 22) Try.func147 (args:=#[.int .i64 (wrap64 (x1_1+1))]) (laws_markText.calls k1 (wrap64 (x1_1+1)) t142 _ A6.out) ?_;rintro e w11 ⟨rfl,hb⟩;refine ⟨_,rfl,?_⟩;replace HO_0:=bR HO_0 hb;replace HK:=am (Kept.below (S:=(fun k_=>P0_ k_)) D13 hb);replace HB:=yH HB hb;clear hb;have p7:0≤(x5_1:Int):=od D0;have q7:(x5_1:Int) < ((x0_1.length:Int):Int):=od D0;obtain ⟨ce7,hcl7,hM7,hcc7,hfr7⟩:=Kd.R_elem HO_0.out z84 (x5_1:Int) p7 q7;obtain rfl:=k84_openM hM7;have hx7_0:w11.cell? ⟨go5,(x5_1:Int).toNat*2,none⟩=some (.int .i64 ((rd_T84 y141 x5_1).f0)):=hcc7 0 _ rfl;have hx7_1:w11.cell? ⟨go5,(x5_1:Int).toNat*2+1,none⟩=some (.string ((rd_T84 y141 x5_1).f1)):=hcc7 1 _ rfl;have hf7_0:w11.frozen? ⟨go5,(x5_1:Int).toNat*2,none⟩=false:=hfr7 0;have hf7_1:w11.frozen? ⟨go5,(x5_1:Int).toNat*2+1,none⟩=false:=hfr7 1;clear hcl7 hcc7 hfr7 hM7;replace p7:=eq_true p7;replace q7:=eq_true q7;have HX12:=am (show Kd.R k84 84 w11 w0.heap.size (fun k_=>(P0_ k_∨w.heap.size≤k_)) (.slice (some ⟨go5,0,none⟩) x0_1.length co8) y141 from (yR HO_0));obtain ⟨ce12,hcl12,hM12,hcc12,hfr12⟩:=Kd.R_elem HX12.out z84 (x5_1:Int) (od D0) (by have h_:(x5_1:Int) < ((x0_1.length:Int):Int):=od D0;first|exact h_|(have e_:=(Kd.R_reads' HO_0.out).1;omega)|simpa using h_);obtain rfl:=k84_openM hM12;have HP12:=Kd.R_seg HX12.out (x5_1:Int) (od D0) (by have h_:(x5_1:Int) < ((x0_1.length:Int):Int):=od D0;first|exact h_|(have e_:=(Kd.R_reads' HO_0.out).1;omega)|simpa using h_) (seg:=[.string t142]) (j:=1) hcl12 hcc12 (show 2≤2 from by decide) (x':=(⟨(rd_T84 y141 x5_1).f0,t142⟩:S84)) (k84_mkM _ _ _ (⟨(rd_T84 y141 x5_1).f0,t142⟩:S84) ) (fun _ hk=>hk);have hx12_1:=hcc12 1 _ rfl;(try simp only [show (k84).sz=2 from rfl,Nat.mul_one,Nat.add_zero] at hx12_1);have hf12_1:=hfr12 1;(try simp only [show (k84).sz=2 from rfl,Nat.mul_one,Nat.add_zero] at hf12_1);clear hcl12 hcc12 hfr12 hM12)|((with_reducible refine gate_store (t:=9) (p:=24) rfl ?_);refine store_event (t:=9) (p:=24) (v:=?vo_w13) (w1:=(w11.setCell ⟨go5,(x5_1:Int).toNat*2+1,none⟩ (.string t142))) ?hg ?ho ?hn ?hr ?_;(case ho=>rfl);(case hg=>rfl);(case hn=>rfl);(case hr=>first|(go_simp;done)|(go_simp;rfl));intro w13 hw;have hg:w11.grownBy w13 (some go5):=(by rw [hw];exact HP12.2);have hp_:Kd.R k84 84 w13 w0.heap.size (fun k_=>(P0_ k_∨w.heap.size≤k_)) (.slice (some ⟨go5,0,none⟩) x0_1.length co8) y143:=(by rw [hw,Ny143.out];exact HP12.1);clear HP12;replace HB:=am ((by rw [hw];exact pt (HB.out) GB5.out:Below w0.heap.size w0 w13));replace HK:=am (Kept.of_grown (S:=(fun k_=>P0_ k_)) hg D13 (fun k_ e_=>(HO_0.out.1 k_ e_)));replace HO_0:=am (hp_);clear hg hw hp_))
    go_roundg k1
    case measure=>have:=HK1.out;omega
    case rel=>exact ⟨(y143),(wrap64 ((wrap64 (x1_1+1))+1)),(wrap64 (x5_1+1)),D2,D2,H',⟨D17⟩,⟨yR HO_0⟩,⟨D13⟩,⟨yW HB⟩⟩
   rw [if_neg c3] at H
   have c3b0:=decide_eq_false c3
   clear c3
   simp only [Option.some.injEq,Prod.mk.injEq] at H
   obtain ⟨rfl,rfl⟩:=H
   obtain ⟨Ao14,co14,eo14⟩:=Kd.R_slice HO_0.out
   subst eo14
   go_wp2
   go_ret
   exact ⟨D1,yR HO_0,yW HB,D13⟩

def laws_markStringS.l0:Nat→List ByteArray→Int→Int→Option (Int × List ByteArray)
 | 0,_,_,_=>none
 | k+1,x0,x1,x5=>if x5 < (x0.length:Int) then ((laws_markText.f k x1).bind fun t144=>(if 0≤x5 then (laws_markStringS.l0 k (x0.set (x5:Int).toNat t144) (wrap64 (x1+1)) (wrap64 (x5+1))) else (none))) else (some (x1,x0))
def laws_markStringS.f (k:Nat) (l0:List ByteArray) (a1:Int):Option (Int × List ByteArray):=laws_markStringS.l0 k l0 a1 0
theorem laws_markStringS.mono_l:∀ k,(∀ y0 y1 y2,LeO (laws_markStringS.l0 k y0 y1 y2) (laws_markStringS.l0 (k+1) y0 y1 y2))
 | 0=>fun _ _ _ r h=>by simp [laws_markStringS.l0] at h
 | k+1=>by
  have ih0:=laws_markStringS.mono_l k
  intro y0 y1 y2
  unfold laws_markStringS.l0
  exact mm
theorem laws_markStringS.mono:∀ a0 a1 k,LeO (laws_markStringS.f k a0 a1) (laws_markStringS.f (k+1) a0 a1):=by
 intro a0 a1 k
 have ih0:=laws_markStringS.mono_l k
 unfold laws_markStringS.f
 exact mm
theorem laws_markStringS.calls (k:Nat) (P0_:Nat→Prop) (u9000_:Value) (l0:List ByteArray) (a1:Int) (r1:Int) (r2:List ByteArray) (w0 w:World) (hB:Below w0.heap.size w0 w) (ho0:Kd.R Kd.string 9 w w0.heap.size P0_ u9000_ l0) (h:laws_markStringS.f k l0 a1=some (r1,r2)) :
  Calls Try.prog 65 #[u9000_, .int .i64 a1] w fun e w'=>e = .returned (.int .i64 r1)∧Kd.R Kd.string 9 w' w0.heap.size (fun k_=>(P0_ k_∨w.heap.size≤k_)) u9000_ r2∧Below w0.heap.size w0 w'∧Kept w w' (fun k_=>P0_ k_):=by
 have HO0:=am (show Kd.R Kd.string 9 w w0.heap.size (fun k_=>(P0_ k_∨w.heap.size≤k_)) u9000_ l0 from Kd.R_mono ho0 (fun k_ hk=>(.inl hk)))
 have HK:=am (Kept.refl w (fun k_=>P0_ k_))
 have HW0:=am hB.size
 have HB:=am hB
 clear hB
 have H:=h
 unfold laws_markStringS.f at H
 clear h
 have H':=am H
 clear H
 go_enter Try.func65,Try.ntmps65
 go_wp2
 go_loopg [1,5] k (fun kq v1 v5 w'=>∃ (x0_1:List ByteArray) (x1_1:Int) (x5_1:Int),v1 = .int .i64 x1_1∧v5 = .int .i64 x5_1∧Aside0 (laws_markStringS.l0 kq x0_1 x1_1 x5_1=some (r1,r2))∧Aside0 (kq≤k)∧Aside0 (Kd.R Kd.string 9 w' w0.heap.size (fun k_=>(P0_ k_∨w.heap.size≤k_)) u9000_ x0_1)∧Aside0 (Kept w w' (fun k_=>P0_ k_))∧Aside0 (Below w0.heap.size w0 w'))
 case atStart=>exact ⟨(l0),(a1),(0),D2,D2,H',⟨Nat.le_refl _⟩,⟨yR HO0⟩,⟨D13⟩,⟨yW HB⟩⟩
 case round =>
  clear H'
  try clear p2
  obtain ⟨x0_1,x1_1,x5_1,rfl,rfl,HA,HK1,HO_0,HK,HB⟩:=hrel
  cases gk with
  | zero=>exact absurd HA.out (by simp [laws_markStringS.l0])
  | succ k1 =>
   have H:=HA.out
   clear HA
   simp only [laws_markStringS.l0] at H
   by_cases c3:x5_1 < (x0_1.length:Int)
   ·rw [if_pos c3] at H
    have c3b0:=decide_eq_true c3
    clear c3
    obtain ⟨t144,A4,H⟩:=yo H
    obtain ⟨c5,H⟩:=yi H
    have c5b0:=decide_eq_true c5
    clear c5
    generalize hy145:(x0_1.set (x5_1:Int).toNat t144:List ByteArray)=y145 at H
    have Ny145:=am hy145.symm
    clear hy145
    have H':=am H
    clear H
    obtain ⟨Ao7,co7,eo7⟩:=Kd.R_slice HO_0.out
    subst eo7
    go_wp2_with (first|((with_reducible refine gC 147 ?_);refine gM (some 15) Try.func147 (args:=#[.int .i64 x1_1]) (laws_markText.calls k1 x1_1 t144 _ A4.out) ?_;rintro e w8 ⟨rfl,hb⟩;refine ⟨_,rfl,?_⟩;replace HO_0:=bR HO_0 hb;replace HK:=am (Kept.below (S:=(fun k_=>P0_ k_)) D13 hb);replace HB:=yH HB hb;clear hb;have p6:0≤(x5_1:Int):=od D0;have q6:(x5_1:Int) < ((x0_1.length:Int):Int):=od D0;obtain ⟨go6,co6,eo6,gb6,gl6,cl6,HG6⟩:=Kd.R_form HO_0.out D5;(first|cases eo6|(injection eo6 with ea_ en_ ec_;(first|subst ea_|(injection ea_ with ea_;subst ea_));subst ec_;clear en_));have GB6:=am gb6;have GG6:=am HG6;clear gb6 gl6 HG6;have HMgo6:=am (show (P0_ go6∨w.heap.size≤go6) from (HO_0.out.1 _ rfl));obtain ⟨hx6_0,hf6_0⟩:=Kd.R_celln (⟨#[]⟩:ByteArray) HO_0.out (x5_1:Int) p6 q6;replace p6:=eq_true p6;replace q6:=eq_true q6;obtain ⟨hy9_,hz9_⟩:=Kd.R_celln (⟨#[]⟩:ByteArray) HO_0.out (x5_1:Int) (od D0) (od D0);have HP9:=Kd.R_putg HO_0.out (x5_1:Int) t144)|((with_reducible refine gate_store (t:=9) (p:=16) rfl ?_);refine store_event (t:=9) (p:=16) (v:=?vo_w10) (w1:=(w8.setCell ⟨go6,(x5_1:Int).toNat,none⟩ (.string t144))) ?hg ?ho ?hn ?hr ?_;(case ho=>rfl);(case hg=>rfl);(case hn=>rfl);(case hr=>first|(go_simp;done)|(go_simp;rfl));intro w10 hw;have hg:w8.grownBy w10 (some go6):=(by rw [hw];exact HP9.2);have hp_:Kd.R Kd.string 9 w10 w0.heap.size (fun k_=>(P0_ k_∨w.heap.size≤k_)) (.slice (some ⟨go6,0,none⟩) x0_1.length co7) y145:=(by rw [hw,Ny145.out];exact HP9.1);clear HP9;replace HB:=am ((by rw [hw];exact pt (HB.out) GB6.out:Below w0.heap.size w0 w10));replace HK:=am (Kept.of_grown (S:=(fun k_=>P0_ k_)) hg D13 (fun k_ e_=>(HO_0.out.1 k_ e_)));replace HO_0:=am (hp_);clear hg hw hp_))
    go_roundg k1
    case measure=>have:=HK1.out;omega
    case rel=>exact ⟨(y145),(wrap64 (x1_1+1)),(wrap64 (x5_1+1)),D2,D2,H',⟨D17⟩,⟨yR HO_0⟩,⟨D13⟩,⟨yW HB⟩⟩
   rw [if_neg c3] at H
   have c3b0:=decide_eq_false c3
   clear c3
   simp only [Option.some.injEq,Prod.mk.injEq] at H
   obtain ⟨rfl,rfl⟩:=H
   obtain ⟨Ao11,co11,eo11⟩:=Kd.R_slice HO_0.out
   subst eo11
   go_wp2
   go_ret
   exact ⟨D1,yR HO_0,yW HB,D13⟩

def laws_heldStringS.l0:Nat→List ByteArray→Int→Int→Option (Int)
 | 0,_,_,_=>none
 | k+1,x0,x1,x5=>if x5 < (x0.length:Int) then (if 0≤x5 then ((laws_markText.f k x1).bind fun t147=>(if (rdOf ByteArray.empty x0 x5).toList=t147.toList then (laws_heldStringS.l0 k x0 (wrap64 (x1+1)) (wrap64 (x5+1))) else (some (-1)))) else (none)) else (some x1)
def laws_heldStringS.f (k:Nat) (l0:List ByteArray) (a1:Int):Option (Int):=laws_heldStringS.l0 k l0 a1 0
theorem laws_heldStringS.mono_l:∀ k,(∀ y0 y1 y2,LeO (laws_heldStringS.l0 k y0 y1 y2) (laws_heldStringS.l0 (k+1) y0 y1 y2))
 | 0=>fun _ _ _ r h=>by simp [laws_heldStringS.l0] at h
 | k+1=>by
  have ih0:=laws_heldStringS.mono_l k
  intro y0 y1 y2
  unfold laws_heldStringS.l0
  exact mm
theorem laws_heldStringS.mono:∀ a0 a1 k,LeO (laws_heldStringS.f k a0 a1) (laws_heldStringS.f (k+1) a0 a1):=by
 intro a0 a1 k
 have ih0:=laws_heldStringS.mono_l k
 unfold laws_heldStringS.f
 exact mm
theorem laws_heldStringS.calls (k:Nat) (A0:Option Addr) (c0:Nat) (l0:List ByteArray) (a1:Int) (r:Int) (w:World) (hr0:Kd.C Kd.string w A0 l0.length l0) (hc0:l0.length≤c0) (h:laws_heldStringS.f k l0 a1=some r) :
  Calls Try.prog 66 #[.slice A0 l0.length c0, .int .i64 a1] w fun e w'=>e = .returned (.int .i64 r)∧Below w.heap.size w w':=by
 have HR0:=am hr0
 have HC0:=am hc0
 clear hr0 hc0
 have HB:=am (Below.refl w.heap.size w)
 have H:=h
 unfold laws_heldStringS.f at H
 clear h
 have H':=am H
 clear H
 go_enter Try.func66,Try.ntmps66
 go_wp2
 go_loopg [1,5] k (fun kq v1 v5 w'=>∃ (x1_1:Int) (x5_1:Int),v1 = .int .i64 x1_1∧v5 = .int .i64 x5_1∧Aside0 (laws_heldStringS.l0 kq l0 x1_1 x5_1=some r)∧Aside0 (kq≤k)∧Aside0 (Below w.heap.size w w'))
 case atStart=>exact ⟨(a1),(0),D2,D2,H',⟨Nat.le_refl _⟩,⟨yW HB⟩⟩
 case round =>
  clear H'
  try clear p2
  obtain ⟨x1_1,x5_1,rfl,rfl,HA,HK1,HB⟩:=hrel
  cases gk with
  | zero=>exact absurd HA.out (by simp [laws_heldStringS.l0])
  | succ k1 =>
   have H:=HA.out
   clear HA
   simp only [laws_heldStringS.l0] at H
   by_cases c3:x5_1 < (l0.length:Int)
   ·rw [if_pos c3] at H
    have c3b0:=decide_eq_true c3
    clear c3
    obtain ⟨c4,H⟩:=yi H
    have c4b0:=decide_eq_true c4
    clear c4
    obtain ⟨t147,A5,H⟩:=yo H
    by_cases c6:(rdOf ByteArray.empty l0 x5_1).toList=t147.toList
    ·rw [if_pos c6] at H
     have c6b0:((rdOf ByteArray.empty l0 x5_1).toList == t147.toList)=true:=beq_iff_eq.mpr c6
     have c6b1:((rdOf ByteArray.empty l0 x5_1).toList != t147.toList)=false:=bne_eq_false_iff_eq.mpr c6
     clear c6
     have H':=am H
     clear H
     try go_wp2
     replace HB:=am (pd HB.out)
     have p146:0≤(x5_1:Int):=od D0
     have q146:x5_1 < (l0.length:Int):=od D0
     obtain ⟨ad146,e146,hx146_0⟩:=Kd.at_string HR0.out x5_1 p146 q146
     have hw146_0:=hx146_0
     cases e146
     replace hx146_0:=(HB.out.cell (World.block_lt_of_cell? w _ hx146_0)).trans hx146_0
     replace p146:=eq_true p146
     replace q146:=eq_true q146
     refine rS0 (n:=7) (S:=fun w'=>w'.cell? (ad146.add (x5_1).toNat)=some (.string (rdOf ByteArray.empty l0 x5_1))) (ds:=[]) [(0,12),(1,13),(2,14),(4,16),(3,15),(5,0),(6,18)] D3 rfl (((HB.out.cell (World.block_lt_of_cell? w _ hw146_0)).trans hw146_0)) (fun hHeld HT_ HW_=>?_)
     generalize wr.drew=w7 at HB hx146_0 hHeld ⊢
     refine rR ?_
     refine rO (N:=some 17) HT_ rfl rfl D3 D4 (fun K hK=>?_)
     refine goes_ Try.func147 D3 rfl #[.int .i64 x1_1] D11 rfl rfl D8 ?_
     with_reducible refine (laws_markText.calls k1 x1_1 t147 _ A5.out).mono ?_
     rintro e w8 ⟨rfl,hb⟩
     refine ⟨_,rfl,?_⟩
     replace HB:=yH HB hb
     (try clear hb)
     (try clear hb2)
     (try clear hk)
     (try clear hi)
     refine hK.out _ _ (((HB.out.cell (World.block_lt_of_cell? w _ hw146_0)).trans hw146_0)) (fun hHeld=>?_)
     clear hK K
     refine rN (a':=?_) ?_ ?_
     rotate_left
     ·show Act.put _ (some 17) _=_
      simp only [Act.put,q1,q2,q3,i64_w,i32_w]
      rfl
     refine rR ?_
     refine rD HT_ D3 ?_
     try go_wp2
     go_roundg k1
     case measure=>have:=HK1.out;omega
     case rel=>exact ⟨(wrap64 (x1_1+1)),(wrap64 (x5_1+1)),D2,D2,H',⟨D17⟩,⟨yW HB⟩⟩
    rw [if_neg c6] at H
    have c6b0:((rdOf ByteArray.empty l0 x5_1).toList == t147.toList)=false:=beq_eq_false_iff_ne.mpr c6
    have c6b1:((rdOf ByteArray.empty l0 x5_1).toList != t147.toList)=true:=bne_iff_ne.mpr c6
    obtain rfl:=Option.some.inj H
    try go_wp2
    replace HB:=am (pd HB.out)
    have p146:0≤(x5_1:Int):=od D0
    have q146:x5_1 < (l0.length:Int):=od D0
    obtain ⟨ad146,e146,hx146_0⟩:=Kd.at_string HR0.out x5_1 p146 q146
    have hw146_0:=hx146_0
    cases e146
    replace hx146_0:=(HB.out.cell (World.block_lt_of_cell? w _ hx146_0)).trans hx146_0
    replace p146:=eq_true p146
    replace q146:=eq_true q146
    refine rS0 (n:=7) (S:=fun w'=>w'.cell? (ad146.add (x5_1).toNat)=some (.string (rdOf ByteArray.empty l0 x5_1))) (ds:=[]) [(0,12),(1,13),(2,14),(4,16),(3,15),(5,0),(6,18)] D3 rfl (((HB.out.cell (World.block_lt_of_cell? w _ hw146_0)).trans hw146_0)) (fun hHeld HT_ HW_=>?_)
    generalize wr.drew=w9 at HB hx146_0 hHeld ⊢
    refine rR ?_
    refine rO (N:=some 17) HT_ rfl rfl D3 D4 (fun K hK=>?_)
    refine goes_ Try.func147 D3 rfl #[.int .i64 x1_1] D11 rfl rfl D8 ?_
    with_reducible refine (laws_markText.calls k1 x1_1 t147 _ A5.out).mono ?_
    rintro e w10 ⟨rfl,hb⟩
    refine ⟨_,rfl,?_⟩
    replace HB:=yH HB hb
    (try clear hb)
    (try clear hb2)
    (try clear hk)
    (try clear hi)
    refine hK.out _ _ (((HB.out.cell (World.block_lt_of_cell? w _ hw146_0)).trans hw146_0)) (fun hHeld=>?_)
    clear hK K
    refine rN (a':=?_) ?_ ?_
    rotate_left
    ·show Act.put _ (some 17) _=_
     simp only [Act.put,q1,q2,q3,i64_w,i32_w]
     rfl
    refine rR ?_
    refine rD HT_ D3 ?_
    try go_wp2
    go_ret
    exact ⟨D1,yW HB⟩
   rw [if_neg c3] at H
   have c3b0:=decide_eq_false c3
   clear c3
   obtain rfl:=Option.some.inj H
   go_wp2
   go_ret
   exact ⟨D1,yW HB⟩

def spec_l1Times.l0:Nat→Int→Int→Int→Option (Int)
 | 0,_,_,_=>none
 | k+1,x5,x6,x7=>if x7 > 0 then (if (Go.bits .and .i64 x7 1)=1 then (if (wrap64 (x6*2)) > 255 then (spec_l1Times.l0 k (Go.bits .xor .i64 x5 x6) (Go.bits .xor .i64 (wrap64 (x6*2)) 283) (x7 / 2)) else (spec_l1Times.l0 k (Go.bits .xor .i64 x5 x6) (wrap64 (x6*2)) (x7 / 2))) else (if (wrap64 (x6*2)) > 255 then (spec_l1Times.l0 k x5 (Go.bits .xor .i64 (wrap64 (x6*2)) 283) (x7 / 2)) else (spec_l1Times.l0 k x5 (wrap64 (x6*2)) (x7 / 2)))) else (some ((x5) % 256))
def spec_l1Times.f (k:Nat) (a0:Int) (a1:Int):Option (Int):=spec_l1Times.l0 k 0 (wrap64 (a0)) (wrap64 (a1))
theorem spec_l1Times.mono_l:∀ k,(∀ y0 y1 y2,LeO (spec_l1Times.l0 k y0 y1 y2) (spec_l1Times.l0 (k+1) y0 y1 y2))
 | 0=>fun _ _ _ r h=>by simp [spec_l1Times.l0] at h
 | k+1=>by
  have ih0:=spec_l1Times.mono_l k
  intro y0 y1 y2
  unfold spec_l1Times.l0
  exact mm
theorem spec_l1Times.mono:∀ a0 a1 k,LeO (spec_l1Times.f k a0 a1) (spec_l1Times.f (k+1) a0 a1):=by
 intro a0 a1 k
 have ih0:=spec_l1Times.mono_l k
 unfold spec_l1Times.f
 exact mm
theorem spec_l1Times.calls (k:Nat) (a0:Int) (a1:Int) (r:Int) (w:World) (h:spec_l1Times.f k a0 a1=some r) :
  Calls Try.prog 174 #[.int .u8 a0, .int .u8 a1] w fun e w'=>e = .returned (.int .u8 r)∧Drawn0 w w':=by
 have H:=h
 unfold spec_l1Times.f at H
 clear h
 have H':=am H
 clear H
 go_enter Try.func174,Try.ntmps174
 go_wp2
 go_loopg [5,6,7] k (fun kq v5 v6 v7 w'=>∃ (x5_1:Int) (x6_1:Int) (x7_1:Int),v5 = .int .i64 x5_1∧v6 = .int .i64 x6_1∧v7 = .int .i64 x7_1∧Aside0 (spec_l1Times.l0 kq x5_1 x6_1 x7_1=some r)∧Aside0 (kq≤k)∧Drawn0 w w')
 case atStart=>exact ⟨(0),(wrap64 (a0)),(wrap64 (a1)),D2,D2,D2,H',⟨Nat.le_refl _⟩,D6⟩
 case round =>
  clear H'
  try clear c1
  try clear p2
  obtain ⟨x5_1,x6_1,x7_1,rfl,rfl,rfl,HA,HK1,⟨m1,rfl⟩⟩:=hrel
  cases gk with
  | zero=>exact absurd HA.out (by simp [spec_l1Times.l0])
  | succ k1 =>
   have H:=HA.out
   clear HA
   simp only [spec_l1Times.l0] at H
   by_cases c3:x7_1 > 0
   ·rw [if_pos c3] at H
    have c3b0:decide (0 < x7_1)=true:=decide_eq_true c3
    clear c3
    by_cases c4:(Go.bits .and .i64 x7_1 1)=1
    ·rw [if_pos c4] at H
     have c4b0:((Go.bits .and .i64 x7_1 1) == 1)=true:=beq_iff_eq.mpr c4
     have c4b1:((Go.bits .and .i64 x7_1 1) != 1)=false:=bne_eq_false_iff_eq.mpr c4
     clear c4
     by_cases c5:(wrap64 (x6_1*2)) > 255
     ·rw [if_pos c5] at H
      have c5b0:decide (255 < (wrap64 (x6_1*2)))=true:=decide_eq_true c5
      clear c5
      have H':=am H
      clear H
      go_wp2
      go_roundg k1
      case measure=>have:=HK1.out;omega
      case rel=>exact ⟨(Go.bits .xor .i64 x5_1 x6_1),(Go.bits .xor .i64 (wrap64 (x6_1*2)) 283),(x7_1 / 2),D2,D2,D2,H',⟨D17⟩,D6⟩
     rw [if_neg c5] at H
     have c5b0:decide (255 < (wrap64 (x6_1*2)))=false:=decide_eq_false c5
     clear c5
     have H':=am H
     clear H
     go_wp2
     go_roundg k1
     case measure=>have:=HK1.out;omega
     case rel=>exact ⟨(Go.bits .xor .i64 x5_1 x6_1),(wrap64 (x6_1*2)),(x7_1 / 2),D2,D2,D2,H',⟨D17⟩,D6⟩
    rw [if_neg c4] at H
    have c4b0:((Go.bits .and .i64 x7_1 1) == 1)=false:=beq_eq_false_iff_ne.mpr c4
    have c4b1:((Go.bits .and .i64 x7_1 1) != 1)=true:=bne_iff_ne.mpr c4
    by_cases c6:(wrap64 (x6_1*2)) > 255
    ·rw [if_pos c6] at H
     have c6b0:decide (255 < (wrap64 (x6_1*2)))=true:=decide_eq_true c6
     clear c6
     have H':=am H
     clear H
     go_wp2
     go_roundg k1
     case measure=>have:=HK1.out;omega
     case rel=>exact ⟨(x5_1),(Go.bits .xor .i64 (wrap64 (x6_1*2)) 283),(x7_1 / 2),D2,D2,D2,H',⟨D17⟩,D6⟩
    rw [if_neg c6] at H
    have c6b0:decide (255 < (wrap64 (x6_1*2)))=false:=decide_eq_false c6
    clear c6
    have H':=am H
    clear H
    go_wp2
    go_roundg k1
    case measure=>have:=HK1.out;omega
    case rel=>exact ⟨(x5_1),(wrap64 (x6_1*2)),(x7_1 / 2),D2,D2,D2,H',⟨D17⟩,D6⟩
   rw [if_neg c3] at H
   have c3b0:decide (0 < x7_1)=false:=decide_eq_false c3
   clear c3
   obtain rfl:=Option.some.inj H
   go_wp2
   go_ret
   exact ⟨D2,D6⟩
end Go.Proofs.Ytajikfnpcobnpaa.PFnExactDecodeLocal
-- SQUEEZED
