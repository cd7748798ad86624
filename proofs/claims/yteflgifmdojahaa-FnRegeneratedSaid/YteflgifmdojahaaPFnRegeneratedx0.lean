import Derived.Test.YteflgifmdojahaaVFnRegeneratedB
import Derived.Test.YteflgifmdojahaaProg
import Derived.Below
import Derived.Deep.Draws
import Derived.Deep.AppendLies
import Derived.Maps.AppendAt
import Derived.OwnWalk
import Derived.Laws.BytesArg
import Derived.Laws.MakeOwn
import Derived.Laws.OwnMore
import Derived.Deep.OwnRows
import Derived.Tactics
import Derived.Lib.ConvBytes
import Derived.Laws.Slices
import Derived.WalkKit
import Derived.KernelRfl
import Derived.RowKit3
import Derived.Deep.LoopGhost
import Derived.Deep.QuietTactic
import Derived.BigQuiet
import Derived.WideLaws
import Derived.Deep.DeepCutAuto
import Derived.Deep.CutBlock
import Derived.Deep.RegionHeld3
import Derived.Laws.Rows
import Derived.Lib.AppendStr
import Derived.ArgAppend
import Derived.Laws.IdiomCopy
import Derived.OrdersHeld
import Derived.Laws.BitsLemmas
import Derived.Shelf.Abstract
import Derived.RowKit
import Derived.Lib.Hide
import Derived.Outline
import Derived.Test.YteflgifmdojahaaVFnRegeneratedA
namespace Go.Proofs.Yteflgifmdojahaa.PFnRegenerated
open Go.RowKit Go.Proofs.YteflgifmdojahaaW.PrintWords Go.Proofs.YteflgifmdojahaaW.PrintLast Go.Proofs.YteflgifmdojahaaW.PrintMore Go.Proofs.Yteflgifmdojahaa.KitS
attribute [local go_sem] max2_int min2_int max_two min_two max_three min_three max_four min_four
set_option linter.unusedVariables false
set_option linter.unusedSimpArgs false
def errW : Option Int→Value
  | none=>.nilIface
  | some c=>.iface 0 (.int .i64 c)
theorem errW_none : errW none = .nilIface:=rfl
theorem errW_some (c : Int) : errW (some c) = .iface 0 (.int .i64 c):=rfl

theorem info3 : (Try.prog.info? 3).map (fun i=>(i.zero,i.size,i.bytes))=some (some (.int .i64 0),1,8):=by kernel_rfl
theorem info5 : (Try.prog.info? 5).map (fun i=>(i.zero,i.size,i.bytes))=some (some (.int .u8 0),1,1):=by kernel_rfl
theorem info24 : (Try.prog.info? 24).map (fun i=>(i.zero,i.size,i.bytes))=some (some (.slice none 0 0),1,24):=by kernel_rfl
theorem info76 : (Try.prog.info? 76).map (fun i=>(i.zero,i.size,i.bytes))=some (some (.agg #[(.int .i64 0),(.slice none 0 0)]),2,32):=by kernel_rfl
theorem info85 : (Try.prog.info? 85).map (fun i=>(i.zero,i.size,i.bytes))=some (some (.agg #[(.int .i64 0),(.int .u8 0)]),2,16):=by kernel_rfl
def rd_L1 (xs : List (List Int)) (i : Int) : (List Int):=xs.getD i.toNat ([] : List Int)
theorem at_L1 {w : World} {A : Option Addr} {n : Nat} {xs : List (List Int)} (h : Kd.C (Kd.slice 5 (Kd.int .u8)) w A n xs) (i : Int) (h0 : 0≤i) (h1 : i < n) : ∃ ad A0 c0,A=some ad∧w.cell? (ad.add i.toNat)=some (.slice A0 (rd_L1 xs i).length c0)∧(rd_L1 xs i).length≤c0∧(Kd.int .u8).C w A0 (rd_L1 xs i).length (rd_L1 xs i):=by
  obtain ⟨ad,c,e,_,hK,hc0⟩:=Kd.C_get h ([] : List Int) i h0 h1
  have hc : ∀ j u,c[j]? = some u→w.cell? (ad.add (i.toNat*1+j))=some u:=hc0
  obtain ⟨A0,c0,rfl,l0,g0⟩:=hK
  exact ⟨ad,A0,c0,e,by have hq:=hc 0 _ rfl;rwa [Nat.mul_one,Nat.add_zero] at hq,l0,g0⟩

/-! #### struct type 76 -/
structure S76 where
  f0 : Int
  f1 : (List Int)
def z76 : S76:=⟨(0 : Int),([] : List Int)⟩
def k76 : Kd S76:=Kd.iso (Kd.pair (Kd.int .i64) (Kd.slice 5 (Kd.int .u8))) (fun x : S76=>(x.f0,x.f1))
theorem k76_open {w : World} {x : S76} {cs : List Value} (h : k76.K w x cs) : ∃ A1 c1,cs=[.int .i64 x.f0, .slice A1 x.f1.length c1]∧x.f1.length≤c1∧(Kd.int .u8).C w A1 x.f1.length x.f1:=by
  obtain ⟨_,_,rfl,rfl,⟨A1,c1,rfl,l1,g1⟩⟩:=h
  exact ⟨A1,c1,rfl,l1,g1⟩
theorem k76_openM {w : World} {base : Nat} {ok : Nat→Prop} {x : S76} {cs : List Value} (h : k76.M w base ok x cs) : ∃ v1,cs=[.int .i64 x.f0,v1]∧(Kd.int .u8).R 5 w base ok v1 x.f1:=by
  obtain ⟨_,_,rfl,rfl,⟨v1,rfl,g1⟩⟩:=h
  exact ⟨v1,rfl,g1⟩
theorem k76_mkM (w : World) (base : Nat) (ok : Nat→Prop) (x : S76) {v1 : Value} (g1 : (Kd.int .u8).R 5 w base ok v1 x.f1) : k76.M w base ok x [.int .i64 x.f0,v1]:=⟨[.int .i64 x.f0],[v1],rfl,rfl,⟨v1,rfl,g1⟩⟩
def rd_T76 (xs : List S76) (i : Int) : S76:=xs.getD i.toNat z76
theorem at_T76 {w : World} {A : Option Addr} {n : Nat} {xs : List S76} (h : Kd.C k76 w A n xs) (i : Int) (h0 : 0≤i) (h1 : i < n) : ∃ ad A1 c1,A=some ad∧w.cell? (ad.add (i.toNat*2))=some (.int .i64 (rd_T76 xs i).f0)∧w.cell? ⟨(ad.add (i.toNat*2)).block,(ad.add (i.toNat*2)).off+1,none⟩=some (.slice A1 (rd_T76 xs i).f1.length c1)∧(rd_T76 xs i).f1.length≤c1∧(Kd.int .u8).C w A1 (rd_T76 xs i).f1.length (rd_T76 xs i).f1:=by
  obtain ⟨ad,c,e,_,hK,hc0⟩:=Kd.C_get h z76 i h0 h1
  have hc : ∀ j u,c[j]? = some u→w.cell? (ad.add (i.toNat*2+j))=some u:=hc0
  obtain ⟨A1,c1,rfl,l1,g1⟩:=k76_open hK
  exact ⟨ad,A1,c1,e,hc 0 _ rfl,by rw [← add_field _ _ 1 (by omega)];exact hc 1 _ rfl,l1,g1⟩

def rd_L4 (xs : List (List Int)) (i : Int) : (List Int):=xs.getD i.toNat ([] : List Int)
/-! #### struct type 85 -/
structure S85 where
  f0 : Int
  f1 : Int
def z85 : S85:=⟨(0 : Int),(0 : Int)⟩
def k85 : Kd S85:=Kd.iso (Kd.pair (Kd.int .i64) (Kd.int .u8)) (fun x : S85=>(x.f0,x.f1))
theorem k85_open {w : World} {x : S85} {cs : List Value} (h : k85.K w x cs) : cs=[.int .i64 x.f0, .int .u8 x.f1]:=by
  obtain ⟨_,_,rfl,rfl,rfl⟩:=h
  exact rfl
theorem k85_openM {w : World} {base : Nat} {ok : Nat→Prop} {x : S85} {cs : List Value} (h : k85.M w base ok x cs) : cs=[.int .i64 x.f0, .int .u8 x.f1]:=by
  obtain ⟨_,_,rfl,rfl,rfl⟩:=h
  exact rfl
theorem k85_mkM (w : World) (base : Nat) (ok : Nat→Prop) (x : S85)  : k85.M w base ok x [.int .i64 x.f0, .int .u8 x.f1]:=⟨[.int .i64 x.f0],[.int .u8 x.f1],rfl,rfl,rfl⟩
def rd_T85 (xs : List S85) (i : Int) : S85:=xs.getD i.toNat z85
theorem at_T85 {w : World} {A : Option Addr} {n : Nat} {xs : List S85} (h : Kd.C k85 w A n xs) (i : Int) (h0 : 0≤i) (h1 : i < n) : ∃ ad ,A=some ad∧w.cell? (ad.add (i.toNat*2))=some (.int .i64 (rd_T85 xs i).f0)∧w.cell? ⟨(ad.add (i.toNat*2)).block,(ad.add (i.toNat*2)).off+1,none⟩=some (.int .u8 (rd_T85 xs i).f1):=by
  obtain ⟨ad,c,e,_,hK,hc0⟩:=Kd.C_get h z85 i h0 h1
  have hc : ∀ j u,c[j]? = some u→w.cell? (ad.add (i.toNat*2+j))=some u:=hc0
  obtain rfl:=k85_open hK
  exact ⟨ad,e,hc 0 _ rfl,by rw [← add_field _ _ 1 (by omega)];exact hc 1 _ rfl⟩

/-- A function's value with more rounds: the steps of the proof. -/
theorem mm {p : Prop} (h : p:=by repeat' first | (with_reducible exact ih0 ..) | (with_reducible exact ih1 ..) | (with_reducible exact ih2 ..) | (with_reducible exact ih3 ..) | (with_reducible exact ih4 ..) | (with_reducible exact ih5 ..) | (with_reducible exact ih6 ..) | (with_reducible exact ih7 ..) | (with_reducible exact LeO.refl _) | (with_reducible exact LeO.none _) | (with_reducible refine LeO.ite ?_ ?_) | (with_reducible refine LeO.bind ?_ (fun _=>?_)) | (with_reducible exact impl_EncodeMsr.mono ..) | (with_reducible exact impl_HelpFor.mono ..) | (with_reducible exact impl_Inverse.mono ..) | (with_reducible exact impl_Msr_message.mono ..) | (with_reducible exact impl_Msr_places.mono ..) | (with_reducible exact impl_Msr_powers.mono ..) | (with_reducible exact impl_Msr_row.mono ..) | (with_reducible exact impl_RegeneratePiece.mono ..) | (with_reducible exact impl_Times.mono ..) | (with_reducible exact impl_added.mono ..) | (with_reducible exact impl_column.mono ..) | (with_reducible exact impl_dot.mono ..) | (with_reducible exact impl_identity.mono ..) | (with_reducible exact impl_power.mono ..) | (with_reducible exact impl_product.mono ..) | (with_reducible exact impl_scaled.mono ..) | (with_reducible exact impl_solve.mono ..) | (with_reducible exact impl_transposed.mono ..) | (with_reducible exact laws_FnRegenerated.mono ..) | (with_reducible exact laws_numberOf.mono ..) | (with_reducible exact laws_someOf.mono ..) | (with_reducible exact spec_DrawEncodeMsr.mono ..) | (with_reducible exact spec_DrawRegeneratePiece.mono ..) | (with_reducible exact spec_EncodeMsr.mono ..) | (with_reducible exact spec_HelpFor.mono ..) | (with_reducible exact spec_RegeneratePiece.mono ..) | (with_reducible exact spec_l1Add.mono ..) | (with_reducible exact spec_l1Cur_vector.mono ..) | (with_reducible exact spec_l1Dot.mono ..) | (with_reducible exact spec_l1Inverse.mono ..) | (with_reducible exact spec_l1Power.mono ..) | (with_reducible exact spec_l1Scale.mono ..) | (with_reducible exact spec_l1Times.mono ..) | (with_reducible exact spec_l2Apply.mono ..) | (with_reducible exact spec_l2Blank.mono ..) | (with_reducible exact spec_l2Identity.mono ..) | (with_reducible exact spec_l2Own.mono ..) | (with_reducible exact spec_l2Transposed.mono ..) | (with_reducible exact spec_l5Encode.mono ..) | (with_reducible exact spec_l5F.mono ..) | (with_reducible exact spec_l5Message.mono ..) | (with_reducible exact spec_l5Row.mono ..) | (with_reducible exact spec_l5Short.mono ..) | (with_reducible exact spec_l5X.mono ..) | exact ih0 .. | exact ih1 .. | exact ih2 .. | exact ih3 .. | exact ih4 .. | exact ih5 .. | exact ih6 .. | exact ih7 .. | exact LeO.none _ | refine LeO.ite ?_ ?_ | refine LeO.bind ?_ (fun _=>?_)) : p:=h
abbrev Y : Bool:=true
abbrev Z : Bool:=false
theorem q1 {α : Type _} (l : List α) (i : Nat) (a : α) : l.toArray.setIfInBounds i a=(l.set i a).toArray:=List.setIfInBounds_toArray ..
theorem q2 {α : Type _} {x : α} {xs : List α} {a : α} : (x :: xs).set 0 a=a :: xs:=rfl
theorem q3 {α : Type _} {x : α} {xs : List α} {i : Nat} {a : α} : (x :: xs).set (i+1) a=x :: xs.set i a:=rfl
theorem am {p : Prop} (h : p) : Aside0 p := Aside0.mk h
theorem pb {B : Nat} {w W : World} (h : Below B w W) (n : Nat) : Below B w (W.drewN n) := pw_below_drewN h n
theorem pd {base : Nat} {w W : World} (h : Below base w W) : Below base w W.drew := below_drew1 h
theorem pa {w W : World} (h : Below w.heap.size w W) (o : Obj) : Below w.heap.size w (W.alloc o) := below_alloc h o
theorem pt {w W : World} {g j : Nat} {v : Value} (h : Below w.heap.size w W) (hg : w.heap.size ≤ g) : Below w.heap.size w (W.setCell ⟨g, j, none⟩ v) := below_set h hg
theorem pz {w W : World} (h : Below w.heap.size w W) : w.heap.size ≤ W.heap.size := below_size h
theorem pu {w W w2 : World} (h : Below w.heap.size w W) (k : Below W.heap.size W w2) : Below w.heap.size w w2 := below_step h k
theorem qa {w : World} {g : Nat} {o : Obj} (h : w.heap[g]? = some o) (o' : Obj) : (w.alloc o').heap[g]? = some o := blk_alloc h o'
theorem qd {w : World} {g : Nat} {o : Obj} (h : w.heap[g]? = some o) : w.drew.heap[g]? = some o := blk_drew h
theorem qb {w w1 : World} {g : Nat} {o : Obj} (h : w.heap[g]? = some o) (hb : Below w.heap.size w w1) : w1.heap[g]? = some o := blk_below h hb
theorem hh {a b c : Sort _} {p : a → b → c → Prop} (x : a) (y : b) (z : c) (h : p x y z) : p x y z := h
theorem q4 {α β : Type _} {f : α → β} {l : List α} : l.toArray.map f = (l.map f).toArray := List.map_toArray ..
theorem q5 {α β : Type _} {f : α → β} {a : α} {l : List α} : (a :: l).map f = f a :: l.map f := rfl
theorem q6 {α β : Type _} {f : α → β} : ([] : List α).map f = [] := rfl
theorem q7 {α : Type _} {i : Nat} {l : List α} : (l.drop i).length = l.length - i := List.length_drop ..
theorem q8 {α : Type _} {i : Nat} {l : List α} : (l.take i).length = min i l.length := List.length_take ..
theorem od {p : Prop} [Decidable p] (e : decide p = true) : p := of_decide_eq_true e
section
variable {P : Program} {md : Region.Mode} {ops : Array Oper} {Q : Exit → Act → World → Prop} {S : World → Prop} {ds : List Nat} {T : Bool × List (List Nat × List Nat)} {B : List Nat}
/-- What has come up, the last first. -/
def lst (n : Nat) : List Nat → Array Bool
  | [] => Array.replicate n false
  | i :: s => (lst n s).setIfInBounds i true
def lsl (n : Nat) : List Nat → List Bool
  | [] => List.replicate n false
  | i :: s => (lsl n s).set i true
theorem lst_l (n : Nat) : ∀ s, (lst n s).toList = lsl n s
  | [] => by simp [lst, lsl]
  | i :: s => by simp [lst, lsl, lst_l n s]
/-- What comes next, in this order. -/
def Todo (r : List (Nat × Nat)) (p : Prop) : Prop := p
theorem rS {id n : Nat} {a : Act} {w : World} (r : List (Nat × Nat)) (hn : ops.size = n) (hm : P.follows .mixedOrders = true) (hT : rtab .any ops = T) (hB : waitsOk T.2 B = true) (hS : S w.drew)
    (h : S w.drew → Aside0 (rtab .any ops = T) → Aside0 (waitsOk T.2 B = true) → Todo r (wpAnyLast P .any ops Q S ds n (lst n []) a w.drew)) : (Code.region id ops true).wp P Q a w :=
  start_ (Array.replicate n false) hm hn rfl hS fun h1 => h h1 ⟨hT⟩ ⟨hB⟩
theorem waits0 (T : List (List Nat × List Nat)) : waitsOk T [] = true := by
  unfold waitsOk
  rw [List.all_eq_true]
  intro d hd
  have hl : d < T.length := by simpa using hd
  rw [List.getElem?_eq_getElem hl]
  simp
/-- A small region none of whose operations stores: the table is the operations' own. -/
theorem rS0 {id n : Nat} {a : Act} {w : World} (r : List (Nat × Nat)) (hn : ops.size = n) (hm : P.follows .mixedOrders = true) (hS : S w.drew)
    (h : S w.drew → Aside0 (rtab .any ops = rtab .any ops) → Aside0 (waitsOk (rtab .any ops).2 [] = true) → Todo r (wpAnyLast P .any ops Q S ds n (lst n []) a w.drew)) : (Code.region id ops true).wp P Q a w :=
  rS r hn hm rfl (waits0 _) hS h
theorem rP {i u : Nat} {oi : Oper} {v : Value} {fuel n : Nat} {s : List Nat} {r : List (Nat × Nat)} {a : Act} {w : World} (hT : Aside0 (rtab md ops = T)) (hi : ops[i]? = some oi) (hN : oi.dst = some u) (hc : anyT T (lsl n s) ((lsl n s).set i true) i = true)
    (hQ : ∀ c a w, Q (.panic c) (a.put oi.dst v) w → Q (.panic c) a w) (hy : Yields P ops oi v a) {a' : Act} (ha : a.put (some u) v = a') (h : Todo r (wpAnyLast P md ops Q S ds fuel (lst n (i :: s)) a' w)) :
    Todo ((i, u) :: r) (wpAnyLast P md ops Q S ds (fuel + 1) (lst n s) a w) :=
  pure_ (lst n (i :: s)) hi hN (any_of hT.out (by rw [lst_l, lst_l]; exact hc)) hQ hy ha h
theorem rT {i u : Nat} {oi : Oper} {v : Value} {fuel n : Nat} {s : List Nat} {r : List (Nat × Nat)} {a : Act} {w : World} (hT : Aside0 (rtab md ops = T)) (hB : Aside0 (waitsOk T.2 B = true)) (hS : S w) (hi : ops[i]? = some oi) (hN : oi.dst = some u) (hc : takeW T B ds (lsl n s) ((lsl n s).set i true) i = true)
    (hQ : ∀ c a w, Q (.panic c) (a.put oi.dst v) w → Q (.panic c) a w) (hy : YieldsIf P ops S oi v a) {a' : Act} (ha : a.put (some u) v = a') (h : Todo r (wpAnyLast P md ops Q S ds fuel (lst n (i :: s)) a' w)) :
    Todo ((i, u) :: r) (wpAnyLast P md ops Q S ds (fuel + 1) (lst n s) a w) :=
  take_ (lst n (i :: s)) hi hN (take_ofW hT.out hB.out (by rw [lst_l, lst_l]; exact hc)) hQ hy hS ha h
theorem rO {i u : Nat} {N : Option Tmp} {oi : Oper} {fuel n : Nat} {s : List Nat} {r : List (Nat × Nat)} {a : Act} {w : World} (hT : Aside0 (rtab md ops = T)) (hi : ops[i]? = some oi) (hN : oi.dst = N) (hc : (readyT T.2 (lsl n s) == [i]) = true) (hd : i ∉ ds)
    (h : ∀ K : Act → World → Prop, Shut (∀ a' w', S w' → (S w' → Todo r (wpAnyLast P md ops Q S ds fuel (lst n (i :: s)) a' w')) → K a' w') → if Region.wanted oi (yielded ops a.tmps) = true then Oper.wp P oi a w K Q else K (a.put N undef) w) :
    Todo ((i, u) :: r) (wpAnyLast P md ops Q S ds (fuel + 1) (lst n s) a w) :=
  one_ (lst n (i :: s)) hi hN (one_of hT.out (by rw [lst_l, lst_l, hc]; show (true && ((lsl n s).set i true == (lsl n s).set i true)) = true; simp)) hd h
theorem rL {i u : Nat} {N : Option Tmp} {oi : Oper} {fuel n : Nat} {s : List Nat} {r : List (Nat × Nat)} {a : Act} {w : World} (hT : Aside0 (rtab md ops = T)) (hi : ops[i]? = some oi) (hN : oi.dst = N) (hc : (readyT T.2 (lsl n s) == [i]) = true) (hd : i ∈ ds)
    (h : ∀ K : Act → World → Prop, Shut (∀ a' w', Todo r (wpAnyLast P md ops Q S ds fuel (lst n (i :: s)) a' w') → K a' w') → if Region.wanted oi (yielded ops a.tmps) = true then Oper.wp P oi a w K Q else K (a.put N undef) w) :
    Todo ((i, u) :: r) (wpAnyLast P md ops Q S ds (fuel + 1) (lst n s) a w) :=
  last_ (lst n (i :: s)) hi hN (one_of hT.out (by rw [lst_l, lst_l, hc]; show (true && ((lsl n s).set i true == (lsl n s).set i true)) = true; simp)) hd h
theorem rD {s : List Nat} {a : Act} {w : World} {k n : Nat} (hT : Aside0 (rtab md ops = T)) (hc : (readyT T.2 (lsl n s) == []) = true) (h : Q .normal a w) : Todo [] (wpAnyLast P md ops Q S ds k (lst n s) a w) :=
  done_ (done_of hT.out (by rw [lst_l]; exact hc)) h
theorem nA (N:Nat) {a a':Act} {v:Value} (h:Act.put a (some N) v=a':=by simp only [Act.put,q1,q2,q3,i64_w,i32_w];rfl):Act.put a (some N) v=a':=h
theorem rN {r : List (Nat × Nat)} {fuel : Nat} {l : Array Bool} {a a' : Act} {w : World} (ha : a = a') (h : Todo r (wpAnyLast P md ops Q S ds fuel l a' w)) : Todo r (wpAnyLast P md ops Q S ds fuel l a w) := norm_ ha h
end
/-- All steps that only yield. -/
theorem rR {p q : Prop} (hq : q) (h : q → p := by
  intro hq_
  repeat first
    | (refine rP HT_ rfl rfl (by kernel_rfl) hh (Or.inl ⟨by rfl, by intro w'; go_simp; with_reducible rfl⟩) (by simp only [Act.put, q1, q2, q3, i64_w, i32_w]; rfl) ?_)
    | (refine rP (v := undef) HT_ rfl rfl (by kernel_rfl) hh (Or.inr ⟨by rfl, rfl⟩) (by simp only [Act.put, q1, q2, q3, i64_w, i32_w]; rfl) ?_)
    | (refine rT HT_ HW_ hHeld rfl rfl (by kernel_rfl) hh (Or.inl ⟨by rfl, by intro w' hs; (repeat (have s_ := hs.1; replace hs := hs.2)); go_simp; with_reducible rfl⟩) (by simp only [Act.put, q1, q2, q3, i64_w, i32_w]; rfl) ?_)
  exact hq_) : p := h hq
theorem D0 {p : Prop} (h : p := by first|(with_reducible assumption)|assumption) : p := h
theorem D1 {p : Prop} (h : p := by first|rfl|(simp;done)|(simp [*];done)) : p := h
theorem D2 {p : Prop} (h : p := by kernel_rfl) : p := h
theorem D3 {p : Prop} (h : p := by first|rfl|(simp [errW_none,errW_some] <;> rfl)|(simp [*,errW_none,errW_some] <;> rfl)) : p := h
theorem D4 {p : Prop} (h : p := by repeat (first|(with_reducible first|exact HK.out|apply KeepBut.set_|apply keep_drewN|apply keep_drew|apply keep_alloc)|exact HK.out)) : p := h
theorem D5 {p : Prop} (h : p := by decide) : p := h
theorem D6 {p : Prop} (h : p := by repeat (first|(with_reducible exact HR570_1.out)|(with_reducible refine Kd.C_alloc ?_ _)|(with_reducible refine Kd.C_drewN ?_ _)|(with_reducible refine Kd.C_drew ?_)|exact HR570_1.out)) : p := h
theorem D7 {p : Prop} (h : p := by repeat (first|(with_reducible first|exact HK.out|apply KeepBut.set_|apply keep_drewN|apply keep_drew|apply keep_alloc|refine keep_far ?_ GW295.out _|refine keep_far ?_ GW300.out _)|exact HK.out)) : p := h
theorem D8 {p : Prop} (h : p := by (try simp only [q4,q5,q6]);first|done|rfl|(simp only [q7,q8];rfl)) : p := h
theorem D9 {p : Prop} (h : p := by repeat (first|(with_reducible first|exact HI0.out|apply IsS127.alloc|apply IsS127.drewN|apply IsS127.drew|apply IsS127.set_1|apply IsS127.set_2)|exact HI0.out)) : p := h
theorem D10 {p : Prop} (h : p := by first|exact Kd.R_nil _ _ _ _ _|exact Kd.N_nil _ _ _ _ _|exact Kd.V_nil _ _ _ _ _|exact Kd.Q_nil _ _ _ _ _|exact Kd.S_nil _ _ _ _ _) : p := h
theorem D11 {p : Prop} (h : p := by first|exact Kd.own_blk (Kd.S_ne HO_7.out BK574.out D5)|(rw [add_block];exact Kd.own_blk (Kd.S_ne HO_7.out BK574.out D5))|(show (Addr.add _ _).block ≠ _;rw [add_block];exact Kd.own_blk (Kd.S_ne HO_7.out BK574.out D5))|(dsimp only;exact Kd.own_blk (Kd.S_ne HO_7.out BK574.out D5))) : p := h
theorem D12 {p : Prop} (h : p := by repeat (first|(with_reducible first|exact HB.out|apply pa|apply pb|apply pd|refine pt ?_ (IsS127.ge HI0.out))|exact HB.out)) : p := h
theorem D13 {p : Prop} (h : p := by omega) : p := h
theorem D14 {p : Prop} (h : p := by repeat (first|(with_reducible first|exact HB.out|apply pa|apply pb|apply pd|refine pt ?_ (IsS127.ge HI0.out)|refine pt ?_ GE295.out|refine pt ?_ GE300.out)|exact HB.out)) : p := h
theorem D15 {p : Prop} (h : p := by repeat (first|exact Drawn0.refl _|apply Drawn0.step)) : p := h
theorem D16 {p : Prop} (h : p := by rfl) : p := h
theorem D17 {p : Prop} (h : p := by repeat (first|(with_reducible first|exact HK.out|apply KeepBut.set_|apply keep_drewN|apply keep_drew|apply keep_alloc|refine keep_far ?_ GW168.out _|refine keep_far ?_ GW173.out _)|exact HK.out)) : p := h
theorem D18 {p : Prop} (h : p := by rw [← hw_];refine sN ?_;exact Kd.N_mono (Kd.N_far (p:=⟨gb497,1,none⟩) (Kd.N_far (p:=⟨gb497,0,none⟩) (Kd.N_mono HO_496000.out (fun k_ hk=>(⟨hk,hk.2⟩:_∧k_ ≠ gb497))) (fun _ hk=>hk.2) (.int .i64 ((rd_T85 l2 x41_2).f0))) (fun _ hk=>hk.2) (.int .u8 ((rd_T85 l2 x41_2).f1))) (fun _ hk=>⟨hk.1.1.1,⟨hk.1.1.2.1,⟨hk.1.1.2.2.1,⟨hk.1.1.2.2.2,hk.1.2⟩⟩⟩⟩)) : p := h
theorem D19 {p : Prop} (h : p := by repeat (first|(with_reducible first|exact HI0.out|apply IsS127.alloc|apply IsS127.drewN|apply IsS127.drew|apply IsS127.set_1|apply IsS127.set_2|refine IsS127.far ?_ NB0_295.out _|refine IsS127.far ?_ NB0_300.out _|refine IsS127.far ?_ NB0_317.out _|refine IsS127.far ?_ NB0_321.out _)|exact HI0.out)) : p := h
theorem D20 {p : Prop} (h : p := by first|exact Kd.own_blk (Kd.R_ne HO_12.out BK574.out D5)|(rw [add_block];exact Kd.own_blk (Kd.R_ne HO_12.out BK574.out D5))|(show (Addr.add _ _).block ≠ _;rw [add_block];exact Kd.own_blk (Kd.R_ne HO_12.out BK574.out D5))|(dsimp only;exact Kd.own_blk (Kd.R_ne HO_12.out BK574.out D5))) : p := h
theorem D21 {p : Prop} (h : p := by repeat (first|(with_reducible first|exact HI0.out|apply IsS127.alloc|apply IsS127.drewN|apply IsS127.drew|apply IsS127.set_1|apply IsS127.set_2|refine IsS127.far ?_ NB0_295.out _|refine IsS127.far ?_ NB0_300.out _)|exact HI0.out)) : p := h
theorem D22 {p : Prop} (h : p := by repeat (first|(with_reducible first|exact HK.out|apply KeepBut.set_|apply keep_drewN|apply keep_drew|apply keep_alloc|refine keep_far ?_ GW306.out _|refine keep_far ?_ GW310.out _)|exact HK.out)) : p := h
theorem D23 {p : Prop} (h : p := by repeat (first|(with_reducible first|exact HK.out|apply KeepBut.set_|apply keep_drewN|apply keep_drew|apply keep_alloc|refine keep_far ?_ GW295.out _|refine keep_far ?_ GW300.out _|refine keep_far ?_ GW317.out _|refine keep_far ?_ GW321.out _)|exact HK.out)) : p := h
theorem D24 {p : Prop} (h : p := by repeat (first|(with_reducible first|exact HK.out|apply KeepBut.set_|apply keep_drewN|apply keep_drew|apply keep_alloc|refine keep_far ?_ GW306.out _)|exact HK.out)) : p := h
theorem D25 {p : Prop} (h : p := by repeat (first|(with_reducible first|exact HK.out|apply KeepBut.set_|apply keep_drewN|apply keep_drew|apply keep_alloc|refine keep_far ?_ GW295.out _)|exact HK.out)) : p := h
theorem D26 {p : Prop} (h : p := by refine sR ?_;exact (Kd.R_mono (Kd.R_far (p:=⟨gb593,1,none⟩) (Kd.R_far (p:=⟨gb593,0,none⟩) (Kd.R_types HO592.out BK593.out D5) (fun _ hk=>hk.2) (.int .i64 t587)) (fun _ hk=>hk.2) (.int .i64 t588)) (fun _ h_=>h_.1))) : p := h
theorem D27 {p : Prop} (h : p := by refine sR ?_;exact (Kd.R_mono (Kd.R_far (p:=⟨gb548,1,none⟩) (Kd.R_far (p:=⟨gb548,0,none⟩) (Kd.R_types HO547.out BK548.out D5) (fun _ hk=>hk.2) (.int .i64 t543)) (fun _ hk=>hk.2) (.int .i64 t544)) (fun _ h_=>h_.1))) : p := h
theorem D28 {p : Prop} (h : p := by rw [← hw_];refine sR ?_;exact Kd.R_mono (Kd.R_far (p:=⟨gb497,1,none⟩) (Kd.R_far (p:=⟨gb497,0,none⟩) (Kd.R_types HO_10.out BK497.out D5) (fun _ hk=>hk.2) (.int .i64 ((rd_T85 l2 x41_2).f0))) (fun _ hk=>hk.2) (.int .u8 ((rd_T85 l2 x41_2).f1))) (fun _ hk=>trivial)) : p := h
theorem D29 {p : Prop} (h : p := by repeat (first|(with_reducible first|exact HB.out|apply pa|apply pb|apply pd|refine pt ?_ (IsS127.ge HI0.out)|refine pt ?_ GE295.out|refine pt ?_ GE300.out|refine pt ?_ GE317.out|refine pt ?_ GE321.out)|exact HB.out)) : p := h
theorem D30 {p : Prop} (h : p := by rw [← hw_];refine sR ?_;exact Kd.R_mono (Kd.R_far (p:=⟨gb404,1,none⟩) (Kd.R_far (p:=⟨gb404,0,none⟩) (Kd.R_types HO_9.out BK404.out D5) (fun _ hk=>hk.2) (.int .i64 ((rd_T85 l2 x33_2).f0))) (fun _ hk=>hk.2) (.int .u8 ((rd_T85 l2 x33_2).f1))) (fun _ hk=>trivial)) : p := h
theorem D31 {p : Prop} (h : p := by rw [← hw_];refine sS ?_;exact Kd.S_mono (Kd.S_far (p:=⟨gb404,1,none⟩) (Kd.S_far (p:=⟨gb404,0,none⟩) (Kd.S_types HO_8.out BK404.out D5) (fun _ hk=>hk.2) (.int .i64 ((rd_T85 l2 x33_2).f0))) (fun _ hk=>hk.2) (.int .u8 ((rd_T85 l2 x33_2).f1))) (fun _ hk=>hk.1)) : p := h
theorem D32 {p : Prop} (h : p := by (try simp only [q4,q5,q6]);first|done|rfl|(go_simp;done)) : p := h
theorem D33 {p : Prop} (h : p := by first|(go_simp;done)|(go_simp;rfl)) : p := h
theorem D34 {p : Prop} (h : p := by first|exact Kd.S_nil _ _ _ _ _|exact Kd.N_nil _ _ _ _ _|exact Kd.V_nil _ _ _ _ _|exact Kd.Q_nil _ _ _ _ _|exact Kd.R_nil _ _ _ _ _) : p := h
theorem D35 {p : Prop} (h : p := by rw [← hw_];refine sB ?_;refine blk_put (cs:=#[.int .i64 ((rd_T85 l2 x41_2).f0), .int .u8 0]) ?_ 1 _ rfl;refine sB ?_;refine blk_put (cs:=#[.int .i64 0, .int .u8 0]) ?_ 0 _ rfl;exact yB BK497) : p := h
theorem D36 {p : Prop} (h : p := by rw [← hw_];refine sB ?_;refine blk_put (cs:=#[.int .i64 ((rd_T85 l2 x33_2).f0), .int .u8 0]) ?_ 1 _ rfl;refine sB ?_;refine blk_put (cs:=#[.int .i64 0, .int .u8 0]) ?_ 0 _ rfl;exact yB BK404) : p := h
theorem D37 {p : Prop} (h : p := by (try simp only [q4,q5,q6]);first|done|rfl|(go_simp;done)|(simp only [q7,q8];rfl)) : p := h
theorem D38 {p : Prop} (h : p := by have:=HK1.out;omega) : p := h
theorem D39 {p : Prop} (h : p := by repeat (first|(with_reducible first|exact HI0.out|apply IsS127.alloc|apply IsS127.drewN|apply IsS127.drew|apply IsS127.set_1|apply IsS127.set_2|refine IsS127.far ?_ NB0_168.out _|refine IsS127.far ?_ NB0_173.out _)|exact HI0.out)) : p := h
theorem D40 {p : Prop} (h : p := by repeat (first|(with_reducible first|exact HK.out|apply KeepBut.set_|apply keep_drewN|apply keep_drew|apply keep_alloc|refine keep_far ?_ GW295.out _|refine keep_far ?_ GW300.out _|refine keep_far ?_ GW317.out _)|exact HK.out)) : p := h
theorem D41 {p : Prop} (h : p := by repeat (first|(with_reducible first|exact HK.out|apply KeepBut.set_|apply keep_drewN|apply keep_drew|apply keep_alloc|refine keep_far ?_ GW295.out _|refine keep_far ?_ GW300.out _|refine keep_far ?_ GW321.out _)|exact HK.out)) : p := h
theorem D42 {p : Prop} (h : p := by repeat (first|(with_reducible first|exact HB.out|apply pa|apply pb|apply pd|refine pt ?_ (IsS127.ge HI0.out)|refine pt ?_ GE168.out|refine pt ?_ GE173.out)|exact HB.out)) : p := h
theorem D43 {p : Prop} (h : p := by exact (fun _ _=>trivial)) : p := h
theorem D44 {p : Prop} (h : p := by simp) : p := h
theorem D45 {p : Prop} (h : p := by rw [← hw_];refine sS ?_;exact Kd.S_mono (Kd.S_far (p:=⟨gb584,1,none⟩) (Kd.S_far (p:=⟨gb584,0,none⟩) (Kd.S_mono HO_7.out (fun k_ hk=>(⟨hk,hk.2⟩:_∧k_ ≠ gb584))) (fun _ hk=>hk.2) (.int .i64 t579)) (fun _ hk=>hk.2) (.slice Ao91 t580.length co91)) (fun _ hk=>⟨hk.1.1.2,hk.1.2⟩)) : p := h
theorem D46 {p : Prop} (h : p := by refine sR ?_;exact (Kd.R_mono (Kd.R_far (p:=⟨gb317,1,none⟩) (Kd.R_far (p:=⟨gb317,0,none⟩) (Kd.R_types HL316_1.out BK317.out D5) (fun _ hk=>hk.2) (.int .i64 ((rd_T76 t313 x39_1).f0))) (fun _ hk=>hk.2) (.slice A316_1 ((rd_T76 t313 x39_1).f1).length c316_1)) (fun _ h_=>h_.1))) : p := h
theorem D47 {p : Prop} (h : p := by exact (pz (yW HB))) : p := h
theorem D48 {p : Prop} (h : p := by repeat (first|(with_reducible exact HR437.out)|(with_reducible refine Kd.C_alloc ?_ _)|(with_reducible refine Kd.C_drewN ?_ _)|(with_reducible refine Kd.C_drew ?_)|exact HR437.out)) : p := h
theorem D49 {p : Prop} (h : p := by refine sB ?_;refine blk_put (cs:=#[.int .i64 0, .slice none 0 0]) ?_ 1 _ rfl;refine sB ?_;refine blk_put (cs:=#[.int .i64 x395000_2, .slice none 0 0]) ?_ 0 _ rfl;exact yB BK394) : p := h
theorem D50 {p : Prop} (h : p := by repeat (first|(with_reducible first|exact HI0.out|apply IsS127.alloc|apply IsS127.drewN|apply IsS127.drew|apply IsS127.set_1|apply IsS127.set_2|refine IsS127.far ?_ NB0_295.out _|refine IsS127.far ?_ NB0_300.out _|refine IsS127.far ?_ NB0_321.out _)|exact HI0.out)) : p := h
theorem D51 {p : Prop} (h : p := by rw [← hw_];refine sR ?_;exact Kd.R_mono (Kd.R_far (p:=⟨gb574,1,none⟩) (Kd.R_far (p:=⟨gb574,0,none⟩) (Kd.R_mono HO_15.out (fun k_ hk=>(⟨hk,hk⟩:_∧k_ ≠ gb574))) (fun _ hk=>hk.2) (.int .i64 t571)) (fun _ hk=>hk.2) (.int .u8 t572)) (fun _ hk=>hk.1)) : p := h
theorem D52 {p : Prop} (h : p := by rw [← hw_];refine sR ?_;exact Kd.R_mono (Kd.R_far (p:=⟨gb584,1,none⟩) (Kd.R_far (p:=⟨gb584,0,none⟩) (Kd.R_types HO_15.out BK584.out D5) (fun _ hk=>hk.2) (.int .i64 t579)) (fun _ hk=>hk.2) (.slice Ao91 t580.length co91)) (fun _ hk=>trivial)) : p := h
theorem D53 {p : Prop} (h : p := by rw [← hw_];refine sR ?_;exact Kd.R_mono (Kd.R_far (p:=⟨gb584,1,none⟩) (Kd.R_far (p:=⟨gb584,0,none⟩) (Kd.R_types HO_12.out BK584.out D5) (fun _ hk=>hk.2) (.int .i64 t579)) (fun _ hk=>hk.2) (.slice Ao91 t580.length co91)) (fun _ hk=>trivial)) : p := h
theorem D54 {p : Prop} (h : p := by rw [← hw_];refine sR ?_;exact Kd.R_mono (Kd.R_far (p:=⟨gb584,1,none⟩) (Kd.R_far (p:=⟨gb584,0,none⟩) (Kd.R_types HO582.out BK584.out D5) (fun _ hk=>hk.2) (.int .i64 t579)) (fun _ hk=>hk.2) (.slice Ao91 t580.length co91)) (fun _ hk=>trivial)) : p := h
theorem D55 {p : Prop} (h : p := by repeat (first|(with_reducible first|exact HK.out|apply KeepBut.set_|apply keep_drewN|apply keep_drew|apply keep_alloc|refine keep_far ?_ GW168.out _)|exact HK.out)) : p := h
theorem D56 {p : Prop} (h : p := by refine sB ?_;refine blk_put (cs:=#[.int .i64 t296, .int .i64 0]) ?_ 1 _ rfl;refine sB ?_;refine blk_put (cs:=#[.int .i64 0, .int .i64 0]) ?_ 0 _ rfl;exact yB BK295) : p := h
theorem D57 {p : Prop} (h : p := by first|omega|exact Nat.le_refl _) : p := h
theorem D58 {p : Prop} (h : p := by refine sB ?_;refine blk_put (cs:=#[.int .i64 t318, .int .u8 0]) ?_ 1 _ rfl;refine sB ?_;refine blk_put (cs:=#[.int .i64 0, .int .u8 0]) ?_ 0 _ rfl;exact yB BK321) : p := h
theorem D59 {p : Prop} (h : p := by rw [← hw_];refine sR ?_;exact Kd.R_mono (Kd.R_far (p:=⟨gb574,1,none⟩) (Kd.R_far (p:=⟨gb574,0,none⟩) (Kd.R_types HO_563.out BK574.out D5) (fun _ hk=>hk.2) (.int .i64 t571)) (fun _ hk=>hk.2) (.int .u8 t572)) (fun _ hk=>trivial)) : p := h
theorem D60 {p : Prop} (h : p := by rw [← hw_];refine sR ?_;exact Kd.R_mono (Kd.R_far (p:=⟨gb574,1,none⟩) (Kd.R_far (p:=⟨gb574,0,none⟩) (Kd.R_types HO_12.out BK574.out D5) (fun _ hk=>hk.2) (.int .i64 t571)) (fun _ hk=>hk.2) (.int .u8 t572)) (fun _ hk=>trivial)) : p := h
theorem D61 {p : Prop} (h : p := by rw [← hw_];refine sS ?_;exact Kd.S_mono (Kd.S_far (p:=⟨gb574,1,none⟩) (Kd.S_far (p:=⟨gb574,0,none⟩) (Kd.S_types HO_7.out BK574.out D5) (fun _ hk=>hk.2) (.int .i64 t571)) (fun _ hk=>hk.2) (.int .u8 t572)) (fun _ hk=>trivial)) : p := h
theorem D62 {p : Prop} (h : p := by rw [← hw_];refine sR ?_;exact Kd.R_mono (Kd.R_far (p:=⟨gb574,1,none⟩) (Kd.R_far (p:=⟨gb574,0,none⟩) (Kd.R_types HL570_1.out BK574.out D5) (fun _ hk=>hk.2) (.int .i64 t571)) (fun _ hk=>hk.2) (.int .u8 t572)) (fun _ hk=>hk.1)) : p := h
theorem D63 {p : Prop} (h : p := by refine sR ?_;exact Kd.R_mono (Kd.R_far (p:=⟨gb295,1,none⟩) (Kd.R_far (p:=⟨gb295,0,none⟩) (Kd.R_types HO_8.out BK295.out D5) (fun _ hk=>hk.2) (.int .i64 t296)) (fun _ hk=>hk.2) (.int .i64 t297)) (fun _ hk=>trivial)) : p := h
theorem D64 {p : Prop} (h : p := by exact (yW HB)) : p := h
theorem D65 {p : Prop} (h : p := by exact (Reps.none _ _)) : p := h
theorem D66 {p : Prop} (h : p := by repeat (first|(with_reducible first|exact HB.out|apply pa|apply pb|apply pd|refine pt ?_ (IsS127.ge HI0.out)|refine pt ?_ GE295.out|refine pt ?_ GE300.out|refine pt ?_ GE321.out)|exact HB.out)) : p := h
theorem D67 {p : Prop} (h : p := by rw [← hw_];refine sB ?_;refine blk_put (cs:=#[.int .i64 t579, .slice none 0 0]) ?_ 1 _ rfl;refine sB ?_;refine blk_put (cs:=#[.int .i64 0, .slice none 0 0]) ?_ 0 _ rfl;exact yB BK584) : p := h
theorem D68 {p : Prop} (h : p := by repeat (first|(with_reducible exact HR442.out)|(with_reducible refine Kd.C_alloc ?_ _)|(with_reducible refine Kd.C_drewN ?_ _)|(with_reducible refine Kd.C_drew ?_)|exact HR442.out)) : p := h
theorem D69 {p : Prop} (h : p := by rw [← hw_];exact yW HB) : p := h
theorem D70 {p : Prop} (h : p := by refine sB ?_;refine blk_put (cs:=#[.int .i64 0, .slice none 0 0]) ?_ 1 _ rfl;refine sB ?_;refine blk_put (cs:=#[.int .i64 x493000_2, .slice none 0 0]) ?_ 0 _ rfl;exact yB BK492) : p := h
theorem D71 {p : Prop} (h : p := by rw [idM_length];exact HN.out.symm) : p := h
theorem D72 {p : Prop} (h : p := by rw [← hw_];refine sB ?_;refine blk_put (cs:=#[.int .i64 t571, .int .u8 0]) ?_ 1 _ rfl;refine sB ?_;refine blk_put (cs:=#[.int .i64 0, .int .u8 0]) ?_ 0 _ rfl;exact yB BK574) : p := h
theorem D73 {p : Prop} (h : p := by refine sB ?_;refine blk_put (cs:=#[.int .i64 t594, .slice none 0 0]) ?_ 1 _ rfl;refine sB ?_;refine blk_put (cs:=#[.int .i64 0, .slice none 0 0]) ?_ 0 _ rfl;exact yB BK599) : p := h
theorem D74 {p : Prop} (h : p := by refine sR ?_;exact (Kd.R_mono (Kd.R_far (p:=⟨gb522,0,none⟩) (Kd.R_types HO_10.out BK522.out D5) (fun _ hk=>hk.2) (.slice Ao125 t518.length co125)) (fun _ h_=>h_.1))) : p := h
theorem D75 {p : Prop} (h : p := by refine sB ?_;refine blk_put (cs:=#[.int .i64 t587, .int .i64 0]) ?_ 1 _ rfl;refine sB ?_;refine blk_put (cs:=#[.int .i64 0, .int .i64 0]) ?_ 0 _ rfl;exact yB BK593) : p := h
theorem D76 {p : Prop} (h : p := by first|rfl|(simp [errW_none,errW_some] <;> rfl)|(simp only [← hji34];first|rfl|(simp [errW_none,errW_some] <;> rfl))|(simp [*,errW_none,errW_some] <;> rfl)) : p := h
theorem D77 {p : Prop} (h : p := by refine sR ?_;exact Kd.R_mono HL570_1.out (fun _ hk=>hk.2)) : p := h
theorem D78 {p : Prop} (h : p := by refine sR ?_;exact Kd.R_mono HO_15.out (fun _ hk=>hk.2)) : p := h
theorem D79 {p : Prop} (h : p := by rw [← HN.out];exact hn2) : p := h
theorem D80 {p : Prop} (h : p := by rw [← HN.out];exact hn1) : p := h
theorem D81 {p : Prop} (h : p := by rw [← HN.out];exact hc0) : p := h
theorem D82 {p : Prop} (h : p := by rw [idM_length];exact hIc) : p := h
theorem D83 {p : Prop} (h : p := by simp only [putAll,Act.put,q1,q2,q3]) : p := h
theorem D84 {p : Prop} (h : p := by refine sR ?_;exact (Kd.R_mono (Kd.R_far (p:=⟨gb321,1,none⟩) (Kd.R_far (p:=⟨gb321,0,none⟩) (Kd.R_mono HO_8.out (fun k_ hk=>(⟨hk,hk.2⟩:_∧k_ ≠ gb321))) (fun _ hk=>hk.2) (.int .i64 t318)) (fun _ hk=>hk.2) (.int .u8 t319)) (fun _ h_=>h_.1))) : p := h
theorem D85 {p : Prop} (h : p := by refine sR ?_;exact Kd.R_mono (Kd.R_far (p:=⟨gb321,1,none⟩) (Kd.R_far (p:=⟨gb321,0,none⟩) (Kd.R_mono HO_8.out (fun k_ hk=>(⟨hk,hk.2⟩:_∧k_ ≠ gb321))) (fun _ hk=>hk.2) (.int .i64 t318)) (fun _ hk=>hk.2) (.int .u8 t319)) (fun _ hk=>hk.1.2)) : p := h
theorem D86 {p : Prop} (h : p := by rw [← hw_];repeat (first|(with_reducible first|exact HI0.out|apply IsS127.alloc|apply IsS127.drewN|apply IsS127.drew|apply IsS127.set_1|apply IsS127.set_2|refine IsS127.far ?_ NB0_306.out _|refine IsS127.far ?_ NB0_310.out _)|exact HI0.out)) : p := h
theorem D87 {p : Prop} (h : p := by refine sR ?_;exact (Kd.R_mono (Kd.R_far (p:=⟨gb599,1,none⟩) (Kd.R_far (p:=⟨gb599,0,none⟩) (Kd.R_types HO597.out BK599.out D5) (fun _ hk=>hk.2) (.int .i64 t594)) (fun _ hk=>hk.2) (.slice Ao162 t595.length co162)) (fun _ h_=>h_.1))) : p := h
theorem D88 {p : Prop} (h : p := by refine sR ?_;exact (Kd.R_mono (Kd.R_far (p:=⟨gb599,1,none⟩) (Kd.R_far (p:=⟨gb599,0,none⟩) (Kd.R_types HO597.out BK599.out D5) (fun _ hk=>hk.2) (.int .i64 t594)) (fun _ hk=>hk.2) (.slice Ao142 t595.length co142)) (fun _ h_=>h_.1))) : p := h
theorem D89 {p : Prop} (h : p := by refine sR ?_;exact (Kd.R_mono (Kd.R_far (p:=⟨gb599,1,none⟩) (Kd.R_far (p:=⟨gb599,0,none⟩) (Kd.R_types HO597.out BK599.out D5) (fun _ hk=>hk.2) (.int .i64 t594)) (fun _ hk=>hk.2) (.slice Ao122 t595.length co122)) (fun _ h_=>h_.1))) : p := h
theorem D90 {p : Prop} (h : p := by refine sR ?_;exact (Kd.R_mono (Kd.R_far (p:=⟨gb599,1,none⟩) (Kd.R_far (p:=⟨gb599,0,none⟩) (Kd.R_types HO592.out BK599.out D5) (fun _ hk=>hk.2) (.int .i64 t594)) (fun _ hk=>hk.2) (.slice Ao162 t595.length co162)) (fun _ h_=>h_.1))) : p := h
theorem D91 {p : Prop} (h : p := by refine sR ?_;exact (Kd.R_mono (Kd.R_far (p:=⟨gb599,1,none⟩) (Kd.R_far (p:=⟨gb599,0,none⟩) (Kd.R_types HO592.out BK599.out D5) (fun _ hk=>hk.2) (.int .i64 t594)) (fun _ hk=>hk.2) (.slice Ao142 t595.length co142)) (fun _ h_=>h_.1))) : p := h
theorem D92 {p : Prop} (h : p := by refine sR ?_;exact (Kd.R_mono (Kd.R_far (p:=⟨gb599,1,none⟩) (Kd.R_far (p:=⟨gb599,0,none⟩) (Kd.R_types HO592.out BK599.out D5) (fun _ hk=>hk.2) (.int .i64 t594)) (fun _ hk=>hk.2) (.slice Ao122 t595.length co122)) (fun _ h_=>h_.1))) : p := h
theorem D93 {p : Prop} (h : p := by have:=HK1.out;have:=HK2.out;omega) : p := h
theorem D94 {p : Prop} (h : p := by repeat (first|(with_reducible first|exact HI0.out|apply IsS127.alloc|apply IsS127.drewN|apply IsS127.drew|apply IsS127.set_1|apply IsS127.set_2|refine IsS127.far ?_ NB0_306.out _|refine IsS127.far ?_ NB0_310.out _)|exact HI0.out)) : p := h
theorem D95 {p : Prop} (h : p := by refine sR ?_;exact (Kd.R_mono (Kd.R_far (p:=⟨gb321,1,none⟩) (Kd.R_far (p:=⟨gb321,0,none⟩) (Kd.R_types HL316_1.out BK321.out D5) (fun _ hk=>hk.2) (.int .i64 t318)) (fun _ hk=>hk.2) (.int .u8 t319)) (fun _ h_=>h_.1))) : p := h
theorem D96 {p : Prop} (h : p := by refine sS ?_;exact (Kd.S_mono (Kd.S_far (p:=⟨gb321,1,none⟩) (Kd.S_far (p:=⟨gb321,0,none⟩) (Kd.S_types HO_37.out BK321.out D5) (fun _ hk=>hk.2) (.int .i64 t318)) (fun _ hk=>hk.2) (.int .u8 t319)) (fun _ h_=>h_.1))) : p := h
theorem D97 {p : Prop} (h : p := by refine sS ?_;exact Kd.S_mono (Kd.S_far (p:=⟨gb321,1,none⟩) (Kd.S_far (p:=⟨gb321,0,none⟩) (Kd.S_types HO_37.out BK321.out D5) (fun _ hk=>hk.2) (.int .i64 t318)) (fun _ hk=>hk.2) (.int .u8 t319)) (fun _ hk=>trivial)) : p := h
theorem D98 {p : Prop} (h : p := by exact rfl) : p := h
theorem D99 {p : Prop} (h : p := by rw [← hw_];repeat (first|(with_reducible first|exact HK.out|apply KeepBut.set_|apply keep_drewN|apply keep_drew|apply keep_alloc|refine keep_far ?_ GW306.out _|refine keep_far ?_ GW310.out _)|exact HK.out)) : p := h
theorem D100 {p : Prop} (h : p := by refine sN ?_;exact (Kd.N_mono (Kd.N_far (p:=⟨gb522,0,none⟩) (Kd.N_mono HO520.out (fun k_ hk=>(⟨hk,hk.2⟩:_∧k_ ≠ gb522))) (fun _ hk=>hk.2) (.slice Ao125 t518.length co125)) (fun _ h_=>h_.1))) : p := h
theorem D101 {p : Prop} (h : p := by first|exact Kd.N_base ho0|exact Kd.S_base ho0|exact Kd.R_base ho0) : p := h
theorem D102 {p : Prop} (h : p := by repeat (first|(with_reducible first|exact HI0.out|apply IsS127.alloc|apply IsS127.drewN|apply IsS127.drew|apply IsS127.set_1|apply IsS127.set_2|refine IsS127.far ?_ NB0_306.out _)|exact HI0.out)) : p := h
theorem D103 {p : Prop} (h : p := by repeat (first|(with_reducible first|exact HI0.out|apply IsS127.alloc|apply IsS127.drewN|apply IsS127.drew|apply IsS127.set_1|apply IsS127.set_2|refine IsS127.far ?_ NB0_295.out _)|exact HI0.out)) : p := h
theorem D104 {p : Prop} (h : p := by repeat (first|(with_reducible first|exact HB.out|apply pa|apply pb|apply pd|refine pt ?_ (IsS127.ge HI0.out)|refine pt ?_ GE295.out|refine pt ?_ GE300.out|refine pt ?_ GE317.out)|exact HB.out)) : p := h
theorem D105 {p : Prop} (h : p := by repeat (first|(with_reducible exact HR316_1.out)|(with_reducible refine Kd.C_alloc ?_ _)|(with_reducible refine Kd.C_drewN ?_ _)|(with_reducible refine Kd.C_drew ?_)|exact HR316_1.out)) : p := h
theorem D106 {p : Prop} (h : p := by rw [← hw_];repeat (first|(with_reducible first|exact HB.out|apply pa|apply pb|apply pd|refine pt ?_ (IsS127.ge HI0.out)|refine pt ?_ GE306.out|refine pt ?_ GE310.out)|exact HB.out)) : p := h
theorem D107 {p : Prop} (h : p := by rw [← hw_];refine sB ?_;refine blk_put (cs:=#[.int .i64 0, .int .i64 0]) ?_ 1 _ rfl;refine sB ?_;refine blk_put (cs:=#[.int .i64 0, .int .i64 0]) ?_ 0 _ rfl;exact yB BK310) : p := h
theorem D108 {p : Prop} (h : p := by repeat (first|(with_reducible first|exact HB.out|apply pa|apply pb|apply pd|refine pt ?_ (IsS127.ge HI0.out)|refine pt ?_ GE306.out|refine pt ?_ GE310.out)|exact HB.out)) : p := h
theorem D109 {p : Prop} (h : p := by refine sB ?_;refine blk_put (cs:=#[.int .i64 t543, .int .i64 0]) ?_ 1 _ rfl;refine sB ?_;refine blk_put (cs:=#[.int .i64 0, .int .i64 0]) ?_ 0 _ rfl;exact yB BK548) : p := h
theorem D110 {p : Prop} (h : p := by refine sB ?_;refine blk_put (cs:=#[.int .i64 t296, .int .i64 0]) ?_ 1 _ rfl;refine sB ?_;refine blk_put (cs:=#[.int .i64 0, .int .i64 0]) ?_ 0 _ rfl;exact yB BK300) : p := h
theorem D111 {p : Prop} (h : p := by refine sB ?_;refine blk_put (cs:=#[.int .i64 t169, .int .i64 0]) ?_ 1 _ rfl;refine sB ?_;refine blk_put (cs:=#[.int .i64 0, .int .i64 0]) ?_ 0 _ rfl;exact yB BK173) : p := h
theorem D112 {p : Prop} (h : p := by have:=hk.2;omega) : p := h
theorem D113 {p : Prop} (h : p := by have:=hk.1;omega) : p := h
theorem D114 {p : Prop} (h : p := by repeat (first|(with_reducible first|exact HB.out|apply pa|apply pb|apply pd|refine pt ?_ (IsS127.ge HI0.out)|refine pt ?_ GE306.out)|exact HB.out)) : p := h
theorem D115 {p : Prop} (h : p := by repeat (first|(with_reducible first|exact HB.out|apply pa|apply pb|apply pd|refine pt ?_ (IsS127.ge HI0.out)|refine pt ?_ GE295.out)|exact HB.out)) : p := h
theorem D116 {p : Prop} (h : p := by first|exact q570|exact od D0|(have e_:=(Kd.S_reads' HO_7.out).1;omega)) : p := h
theorem D117 {p : Prop} (h : p := by simp [Value.ownBlock]) : p := h
theorem D118 {p : Prop} (h : p := by rw [← hw_];exact yF BK548) : p := h
theorem D119 {p : Prop} (h : p := by refine sN ?_;exact Kd.N_mono HO_496000.out (fun _ hk=>⟨hk.1.1,⟨hk.1.2.1,⟨hk.1.2.2.1,⟨hk.1.2.2.2.1,hk.1.2.2.2.2⟩⟩⟩⟩)) : p := h
theorem D120 {p : Prop} (h : p := by have:=HK1.out;first|omega|exact Nat.le_refl _) : p := h
theorem D121 {p : Prop} (h : p := by have:=HK1.out;have:=HK2.out;first|omega|exact Nat.le_refl _) : p := h
set_option maxHeartbeats 8000000
set_option maxRecDepth 100000
def impl_Times.l0:Nat→Int→Int→Int→Int→Option (Int)
 | 0,_,_,_,_=>none
 | k+1,x1,x5,x6,x7=>if x6 < 8 then (if 0≤x6 then (if (Go.bits .and .u8 (shr .u8 x1 x6) 1)=1 then (if (wrap64 (x7*2)) > 255 then (impl_Times.l0 k x1 (Go.bits .xor .i64 x5 x7) (wrap64 (x6+1)) (Go.bits .xor .i64 (wrap64 (x7*2)) 283)) else (impl_Times.l0 k x1 (Go.bits .xor .i64 x5 x7) (wrap64 (x6+1)) (wrap64 (x7*2)))) else (if (wrap64 (x7*2)) > 255 then (impl_Times.l0 k x1 x5 (wrap64 (x6+1)) (Go.bits .xor .i64 (wrap64 (x7*2)) 283)) else (impl_Times.l0 k x1 x5 (wrap64 (x6+1)) (wrap64 (x7*2))))) else (none)) else (some ((x5) % 256))
def impl_Times.f (k:Nat) (a0:Int) (a1:Int):Option (Int):=impl_Times.l0 k a1 0 0 (wrap64 (a0))
theorem impl_Times.mono_l:∀ k,(∀ y0 y1 y2 y3,LeO (impl_Times.l0 k y0 y1 y2 y3) (impl_Times.l0 (k+1) y0 y1 y2 y3))
 | 0=>fun _ _ _ _ r h=>by simp [impl_Times.l0] at h
 | k+1=>by
  have ih0:=impl_Times.mono_l k
  intro y0 y1 y2 y3
  unfold impl_Times.l0
  exact mm
theorem impl_Times.mono:∀ a0 a1 k,LeO (impl_Times.f k a0 a1) (impl_Times.f (k+1) a0 a1):=by
 intro a0 a1 k
 have ih0:=impl_Times.mono_l k
 unfold impl_Times.f
 exact mm
theorem impl_Times.calls (k:Nat) (a0:Int) (a1:Int) (r:Int) (w:World) (h:impl_Times.f k a0 a1=some r) :
  Calls Try.prog 51 #[.int .u8 a0, .int .u8 a1] w fun e w'=>e = .returned (.int .u8 r)∧Drawn0 w w':=by
 have H:=h
 unfold impl_Times.f at H
 clear h
 have H':=am H
 clear H
 go_enter Try.func51,Try.ntmps51
 go_wp2
 go_loopg [5,6,7] k (fun kq v5 v6 v7 w'=>∃ (x5_1:Int) (x6_1:Int) (x7_1:Int),v5 = .int .i64 x5_1∧v6 = .int .i64 x6_1∧v7 = .int .i64 x7_1∧Aside0 (impl_Times.l0 kq a1 x5_1 x6_1 x7_1=some r)∧Aside0 (kq≤k)∧Drawn0 w w')
 case atStart=>exact ⟨(0),(0),(wrap64 (a0)),D1,D1,D1,H',⟨Nat.le_refl _⟩,D15⟩
 case round =>
  clear H'
  try clear p2
  obtain ⟨x5_1,x6_1,x7_1,rfl,rfl,rfl,HA,HK1,⟨m1,rfl⟩⟩:=hrel
  cases gk with
  | zero=>exact absurd HA.out (by simp [impl_Times.l0])
  | succ k1 =>
   have H:=HA.out
   clear HA
   simp only [impl_Times.l0] at H
   by_cases c3:x6_1 < 8
   ·rw [if_pos c3] at H
    have c3b0:=decide_eq_true c3
    clear c3
    obtain ⟨c4,H⟩:=yi H
    have c4b0:=eq_true c4
    have c4b1:decide (0≤x6_1)=true:=decide_eq_true c4
    clear c4
    generalize hji5:(shr .u8 a1 x6_1)=ji5 at H
    have hji5_:(a1 / 2 ^ min x6_1.toNat 8)=ji5:=hji5
    have hji5z:x6_1≤8→(a1 / 2 ^ x6_1.toNat)=ji5:=shr_small hji5
    by_cases c6:(Go.bits .and .u8 (ji5) 1)=1
    ·rw [if_pos c6] at H
     have c6b0:((Go.bits .and .u8 (ji5) 1) == 1)=true:=beq_iff_eq.mpr c6
     have c6b1:((Go.bits .and .u8 (ji5) 1) != 1)=false:=bne_eq_false_iff_eq.mpr c6
     clear c6
     by_cases c7:(wrap64 (x7_1*2)) > 255
     ·rw [if_pos c7] at H
      have c7b0:decide (255 < (wrap64 (x7_1*2)))=true:=decide_eq_true c7
      clear c7
      have H':=am H
      clear H
      go_wp2
      go_roundg k1
      case measure=>have:=HK1.out;omega
      case rel=>exact ⟨(Go.bits .xor .i64 x5_1 x7_1),(wrap64 (x6_1+1)),(Go.bits .xor .i64 (wrap64 (x7_1*2)) 283),D1,D1,D1,H',⟨D38⟩,D15⟩
     rw [if_neg c7] at H
     have c7b0:decide (255 < (wrap64 (x7_1*2)))=false:=decide_eq_false c7
     clear c7
     have H':=am H
     clear H
     go_wp2
     go_roundg k1
     case measure=>have:=HK1.out;omega
     case rel=>exact ⟨(Go.bits .xor .i64 x5_1 x7_1),(wrap64 (x6_1+1)),(wrap64 (x7_1*2)),D1,D1,D1,H',⟨D38⟩,D15⟩
    rw [if_neg c6] at H
    have c6b0:((Go.bits .and .u8 (ji5) 1) == 1)=false:=beq_eq_false_iff_ne.mpr c6
    have c6b1:((Go.bits .and .u8 (ji5) 1) != 1)=true:=bne_iff_ne.mpr c6
    by_cases c8:(wrap64 (x7_1*2)) > 255
    ·rw [if_pos c8] at H
     have c8b0:decide (255 < (wrap64 (x7_1*2)))=true:=decide_eq_true c8
     clear c8
     have H':=am H
     clear H
     go_wp2
     go_roundg k1
     case measure=>have:=HK1.out;omega
     case rel=>exact ⟨(x5_1),(wrap64 (x6_1+1)),(Go.bits .xor .i64 (wrap64 (x7_1*2)) 283),D1,D1,D1,H',⟨D38⟩,D15⟩
    rw [if_neg c8] at H
    have c8b0:decide (255 < (wrap64 (x7_1*2)))=false:=decide_eq_false c8
    clear c8
    have H':=am H
    clear H
    go_wp2
    go_roundg k1
    case measure=>have:=HK1.out;omega
    case rel=>exact ⟨(x5_1),(wrap64 (x6_1+1)),(wrap64 (x7_1*2)),D1,D1,D1,H',⟨D38⟩,D15⟩
   rw [if_neg c3] at H
   have c3b0:=decide_eq_false c3
   clear c3
   obtain rfl:=Option.some.inj H
   go_wp2
   go_ret
   exact ⟨D1,D15⟩

def impl_power.l0:Nat→Int→Int→Int→Option (Int)
 | 0,_,_,_=>none
 | k+1,x0,x1,x5=>if x1 > 0 then (if (Go.bits .and .i64 x1 1)=1 then ((impl_Times.f k x5 x0).bind fun t101=>((impl_Times.f k x0 x0).bind fun t102=>(impl_power.l0 k t102 (x1 / 2) t101))) else ((impl_Times.f k x0 x0).bind fun t103=>(impl_power.l0 k t103 (x1 / 2) x5))) else (some x5)
def impl_power.f (k:Nat) (a0:Int) (a1:Int):Option (Int):=impl_power.l0 k a0 a1 1
theorem impl_power.mono_l:∀ k,(∀ y0 y1 y2,LeO (impl_power.l0 k y0 y1 y2) (impl_power.l0 (k+1) y0 y1 y2))
 | 0=>fun _ _ _ r h=>by simp [impl_power.l0] at h
 | k+1=>by
  have ih0:=impl_power.mono_l k
  intro y0 y1 y2
  unfold impl_power.l0
  exact mm
theorem impl_power.mono:∀ a0 a1 k,LeO (impl_power.f k a0 a1) (impl_power.f (k+1) a0 a1):=by
 intro a0 a1 k
 have ih0:=impl_power.mono_l k
 unfold impl_power.f
 exact mm
theorem impl_power.calls (k:Nat) (a0:Int) (a1:Int) (r:Int) (w:World) (h:impl_power.f k a0 a1=some r) :
  Calls Try.prog 88 #[.int .u8 a0, .int .i64 a1] w fun e w'=>e = .returned (.int .u8 r)∧Drawn0 w w':=by
 have H:=h
 unfold impl_power.f at H
 clear h
 have H':=am H
 clear H
 go_enter Try.func88,Try.ntmps88
 go_wp2
 go_loopg [0,1,5] k (fun kq v0 v1 v5 w'=>∃ (x0_1:Int) (x1_1:Int) (x5_1:Int),v0 = .int .u8 x0_1∧v1 = .int .i64 x1_1∧v5 = .int .u8 x5_1∧Aside0 (impl_power.l0 kq x0_1 x1_1 x5_1=some r)∧Aside0 (kq≤k)∧Drawn0 w w')
 case atStart=>exact ⟨(a0),(a1),(1),D1,D1,D1,H',⟨Nat.le_refl _⟩,D15⟩
 case round =>
  clear H'
  try clear p2
  obtain ⟨x0_1,x1_1,x5_1,rfl,rfl,rfl,HA,HK1,⟨m1,rfl⟩⟩:=hrel
  cases gk with
  | zero=>exact absurd HA.out (by simp [impl_power.l0])
  | succ k1 =>
   have H:=HA.out
   clear HA
   simp only [impl_power.l0] at H
   by_cases c3:x1_1 > 0
   ·rw [if_pos c3] at H
    have c3b0:decide (0 < x1_1)=true:=decide_eq_true c3
    clear c3
    by_cases c4:(Go.bits .and .i64 x1_1 1)=1
    ·rw [if_pos c4] at H
     have c4b0:((Go.bits .and .i64 x1_1 1) == 1)=true:=beq_iff_eq.mpr c4
     have c4b1:((Go.bits .and .i64 x1_1 1) != 1)=false:=bne_eq_false_iff_eq.mpr c4
     clear c4
     obtain ⟨t101,A5,H⟩:=yo H
     obtain ⟨t102,A6,H⟩:=yo H
     have H':=am H
     clear H
     go_wp2_with (first|((with_reducible refine gC 51 ?_);refine gM (some 15) Try.func51 (args:=#[.int .u8 x5_1, .int .u8 x0_1]) (impl_Times.calls k1 x5_1 x0_1 t101 _ A5.out) ?_;rintro e w' ⟨rfl,⟨nd,rfl⟩⟩;refine ⟨_,rfl,?_⟩)|((with_reducible refine gC 51 ?_);refine gM (some 18) Try.func51 (args:=#[.int .u8 x0_1, .int .u8 x0_1]) (impl_Times.calls k1 x0_1 x0_1 t102 _ A6.out) ?_;rintro e w' ⟨rfl,⟨nd,rfl⟩⟩;refine ⟨_,rfl,?_⟩))
     go_roundg k1
     case measure=>have:=HK1.out;omega
     case rel=>exact ⟨(t102),(x1_1 / 2),(t101),D1,D1,D1,H',⟨D38⟩,D15⟩
    rw [if_neg c4] at H
    have c4b0:((Go.bits .and .i64 x1_1 1) == 1)=false:=beq_eq_false_iff_ne.mpr c4
    have c4b1:((Go.bits .and .i64 x1_1 1) != 1)=true:=bne_iff_ne.mpr c4
    obtain ⟨t103,A7,H⟩:=yo H
    have H':=am H
    clear H
    go_wp2_with (first|((with_reducible refine gC 51 ?_);refine gM (some 18) Try.func51 (args:=#[.int .u8 x0_1, .int .u8 x0_1]) (impl_Times.calls k1 x0_1 x0_1 t103 _ A7.out) ?_;rintro e w' ⟨rfl,⟨nd,rfl⟩⟩;refine ⟨_,rfl,?_⟩))
    go_roundg k1
    case measure=>have:=HK1.out;omega
    case rel=>exact ⟨(t103),(x1_1 / 2),(x5_1),D1,D1,D1,H',⟨D38⟩,D15⟩
   rw [if_neg c3] at H
   have c3b0:decide (0 < x1_1)=false:=decide_eq_false c3
   clear c3
   obtain rfl:=Option.some.inj H
   go_wp2
   go_ret
   exact ⟨D1,D15⟩

def spec_l1In.f (a0:Int) (a1:Int) (a2:Int):Option (Bool):=if a0 ≥ a1 then (some (decide (a0≤a2))) else (some false)
theorem spec_l1In.calls (a0:Int) (a1:Int) (a2:Int) (r:Bool) (w:World) (h:spec_l1In.f a0 a1 a2=some r) :
  Calls Try.prog 84 #[.int .i64 a0, .int .i64 a1, .int .i64 a2] w fun e w'=>e = .returned (.bool r)∧Drawn0 w w':=by
 have H:=h
 unfold spec_l1In.f at H
 clear h
 by_cases c4:a0 ≥ a1
 ·rw [if_pos c4] at H
  have c4b0:decide (a1≤a0)=true:=decide_eq_true c4
  clear c4
  obtain rfl:=Option.some.inj H
  go_enter Try.func84,Try.ntmps84
  go_wp2
  go_ret
  exact ⟨D1,D15⟩
 rw [if_neg c4] at H
 have c4b0:decide (a1≤a0)=false:=decide_eq_false c4
 clear c4
 obtain rfl:=Option.some.inj H
 go_enter Try.func84,Try.ntmps84
 go_wp2
 go_ret
 exact ⟨D1,D15⟩

def spec_GoodMsr.f (a0_0:Int) (a0_1:Int):Option (Bool):=(spec_l1In.f a0_1 2 4).bind fun t105=>(if t105=true then ((spec_l1In.f a0_0 (wrap64 ((wrap64 (2*a0_1)) - 1)) 14).bind fun t106=>(some t106)) else (some false))
theorem spec_GoodMsr.calls (a0_0:Int) (a0_1:Int) (r:Bool) (w:World) (h:spec_GoodMsr.f a0_0 a0_1=some r) :
  Calls Try.prog 47 #[.agg #[.int .i64 a0_0, .int .i64 a0_1]] w fun e w'=>e = .returned (.bool r)∧Below w.heap.size w w':=by
 have hu30:=Try.underlying30
 have HB:=am (Below.refl w.heap.size w)
 have H:=h
 unfold spec_GoodMsr.f at H
 clear h
 obtain ⟨t105,A2,H⟩:=yo H
 by_cases c3:t105=true
 ·subst c3
  replace H:=yt H
  obtain ⟨t106,A4,H⟩:=yo H
  obtain rfl:=Option.some.inj H
  go_enter Try.func47,Try.ntmps47
  go_wp2_with (first|((with_reducible refine gD 1 ?_);refine gB (cs:=#[.int .i64 a0_0, .int .i64 a0_1]) 30 ?_;intro gb104 hg w5 hbox hb;have BK104:=am (hbox);have GW104:=ye HB hg;replace HB:=yH HB hb;have GE104:=GW104;clear hb hbox hg;obtain ⟨hcz6_0,hcz6_1,hfz6_0,hfz6_1⟩:=yk2 BK104)|((with_reducible refine gC 84 ?_);refine gM (some 5) Try.func84 (args:=#[.int .i64 a0_1, .int .i64 2, .int .i64 4]) (spec_l1In.calls a0_1 2 4 true _ A2.out) ?_;rintro e w' ⟨rfl,⟨nd,rfl⟩⟩;refine ⟨_,rfl,?_⟩)|(go_at_call 84;(with_reducible refine (spec_l1In.calls a0_0 (wrap64 ((wrap64 (2*a0_1)) - 1)) 14 t106 _ A4.out).mono ?_);rintro e w' ⟨rfl,⟨nd,rfl⟩⟩))
  go_ret
  exact ⟨D3,yW HB⟩
 replace c3:=Bool.eq_false_iff.mpr c3
 subst c3
 replace H:=yn H
 obtain rfl:=Option.some.inj H
 go_enter Try.func47,Try.ntmps47
 go_wp2_with (first|((with_reducible refine gD 1 ?_);refine gB (cs:=#[.int .i64 a0_0, .int .i64 a0_1]) 30 ?_;intro gb104 hg w7 hbox hb;have BK104:=am (hbox);have GW104:=ye HB hg;replace HB:=yH HB hb;have GE104:=GW104;clear hb hbox hg;obtain ⟨hcz8_0,hcz8_1,hfz8_0,hfz8_1⟩:=yk2 BK104)|((with_reducible refine gC 84 ?_);refine gM (some 5) Try.func84 (args:=#[.int .i64 a0_1, .int .i64 2, .int .i64 4]) (spec_l1In.calls a0_1 2 4 false _ A2.out) ?_;rintro e w' ⟨rfl,⟨nd,rfl⟩⟩;refine ⟨_,rfl,?_⟩))
 go_ret
 exact ⟨D3,yW HB⟩

def spec_l2Blank.l0:Nat→Int→Int→Int→List (List Int)→Option ((List (List Int)))
 | 0,_,_,_,_=>none
 | k+1,x0,x1,x6,x109000=>if x6 < x0 then (if 0≤x1 then (if (x1:Int).toNat≤281474976710656 then (if x109000.length < 5864062014805 then (spec_l2Blank.l0 k x0 x1 (wrap64 (x6+1)) (x109000 ++ [(List.replicate (x1:Int).toNat 0)])) else (none)) else (none)) else (none)) else (some x109000)
def spec_l2Blank.f (k:Nat) (a0:Int) (a1:Int):Option ((List (List Int))):=spec_l2Blank.l0 k a0 a1 0 ([]:List (List Int))
theorem spec_l2Blank.mono_l:∀ k,(∀ y0 y1 y2 y3,LeO (spec_l2Blank.l0 k y0 y1 y2 y3) (spec_l2Blank.l0 (k+1) y0 y1 y2 y3))
 | 0=>fun _ _ _ _ r h=>by simp [spec_l2Blank.l0] at h
 | k+1=>by
  have ih0:=spec_l2Blank.mono_l k
  intro y0 y1 y2 y3
  unfold spec_l2Blank.l0
  exact mm
theorem spec_l2Blank.mono:∀ a0 a1 k,LeO (spec_l2Blank.f k a0 a1) (spec_l2Blank.f (k+1) a0 a1):=by
 intro a0 a1 k
 have ih0:=spec_l2Blank.mono_l k
 unfold spec_l2Blank.f
 exact mm
def spec_l2Blank.T5:Bool × List (List Nat × List Nat):=(true,[([],[]),([0],[0]),([],[]),([2,2],[2]),([3],[3]),([1,4],[1,4]),([0,1,2,3,4,5],[]),([6,5,5,0,1,2,3,4,5],[5,6])])
def spec_l2Blank.B5:List Nat:=[0,1,0,4,12,31,63,127]
theorem spec_l2Blank.tab5:rtab .any (opsOf Try.f124 5)=spec_l2Blank.T5:=by kernel_rfl
theorem spec_l2Blank.bits5:waitsOk spec_l2Blank.T5.2 spec_l2Blank.B5=true:=by kernel_rfl
theorem spec_l2Blank.calls (k:Nat) (a0:Int) (a1:Int) (r:List (List Int)) (w:World) (h:spec_l2Blank.f k a0 a1=some r) :
  Calls Try.prog 124 #[.int .i64 a0, .int .i64 a1] w fun e w'=>∃ v0_:Value,e = .returned (.agg #[v0_])∧Kd.S (Kd.slice 5 (Kd.int .u8)) 24 w' w.heap.size (fun _=>True) v0_ r∧Below w.heap.size w w':=by
 have hu27:=Try.underlying27
 have HB:=am (Below.refl w.heap.size w)
 have H:=h
 unfold spec_l2Blank.f at H
 clear h
 have H':=am H
 clear H
 go_enter Try.func124,Try.ntmps124
 go_wp2_with (first|((with_reducible refine gD 4 ?_);refine gB (cs:=#[.slice none 0 0]) 27 ?_;intro gb107 hg w3 hbox hb;have BK107:=am (hbox);have GW107:=ye HB hg;replace HB:=yH HB hb;have GE107:=GW107;clear hb hbox hg)|((with_reducible refine gD 5 ?_);refine gB (cs:=#[.slice none 0 0]) 27 ?_;intro gb108 hg w4 hbox hb;have BK108:=am (hbox);have GW108:=ye HB hg;replace HB:=yH HB hb;have NB107_108:=yl BK107 hg;have NB108_107:=yg BK107 hg;replace BK107:=yb BK107 hb;have GE108:=GW108;clear hb hbox hg;have hnb5:=NB108_107.out;have hnc5:=NB107_108.out;obtain ⟨hcz6_0,hfz6_0⟩:=yk1 BK108))
 go_loopg [6] k (fun kq v6 w'=>∃ (x6_1:Int) (x109000_1:List (List Int)) (u109000:Value),v6 = .int .i64 x6_1∧Aside0 (spec_l2Blank.l0 kq a0 a1 x6_1 x109000_1=some r)∧Aside0 (kq≤k)∧Aside0 (Kd.S (Kd.slice 5 (Kd.int .u8)) 24 w' w.heap.size (fun _=>True) u109000 x109000_1)∧Aside0 (w'.heap[gb107]? = some (.cells #[(.slice none 0 0)] 27 (0,0)))∧Aside0 (w'.heap[gb108]? = some (.cells #[u109000] 27 (0,0)))∧Aside0 (Below w.heap.size w w'))
 case atStart=>exact ⟨(0),(([]:List (List Int))),(.slice none 0 0),D1,H',⟨Nat.le_refl _⟩,⟨D34⟩,⟨yF BK107⟩,⟨by refine sB ?_;refine blk_put (cs:=#[.slice none 0 0]) ?_ 0 _ rfl;exact yB BK108⟩,⟨yW HB⟩⟩
 case round =>
  clear H'
  try clear c1
  try clear p2
  try clear c5
  try clear hcz6_0
  try clear hfz6_0
  obtain ⟨x6_1,x109000_1,u109000,rfl,HA,HK1,HO_109000,BK107,BK108,HB⟩:=hrel
  cases gk with
  | zero=>exact absurd HA.out (by simp [spec_l2Blank.l0])
  | succ k1 =>
   have H:=HA.out
   clear HA
   simp only [spec_l2Blank.l0] at H
   by_cases c7:x6_1 < a0
   ·rw [if_pos c7] at H
    have c7b0:=decide_eq_true c7
    clear c7
    obtain ⟨c8,H⟩:=yi H
    have c8b0:=eq_true c8
    have c8b1:decide (0≤a1)=true:=decide_eq_true c8
    clear c8
    obtain ⟨c9,H⟩:=yi H
    have c9b0:=eq_true c9
    have c9b1:decide ((a1:Int).toNat≤281474976710656)=true:=decide_eq_true c9
    clear c9
    generalize hy109:(List.replicate (a1:Int).toNat 0:List Int)=y109 at H
    have Ny109:=am hy109.symm
    clear hy109
    obtain ⟨c10,H⟩:=yi H
    have LMc10:=am c10
    clear c10
    generalize hy112:(x109000_1 ++ [y109]:List (List Int))=y112 at H
    have Ny112:=am hy112.symm
    clear hy112
    have H':=am H
    clear H
    try go_wp2
    replace HO_109000:=am (Kd.S_drew HO_109000.out)
    replace BK107:=am (qd BK107.out)
    replace BK108:=am (qd BK108.out)
    replace HB:=am (pd HB.out)
    refine rS (n:=8) (S:=fun w'=>w'.cell? ⟨gb108,0,none⟩=some (u109000)) (ds:=[7]) [(0,13),(2,15),(1,14),(3,0),(4,0),(5,0),(6,19),(7,0)] D2 rfl spec_l2Blank.tab5 spec_l2Blank.bits5 (yk BK108 0) (fun hHeld HT_ HW_=>?_)
    generalize wr.drew=w11 at HO_109000 BK107 BK108 HB hHeld ⊢
    refine rR ?_
    refine rO (N:=some 16) HT_ rfl rfl D2 D5 (fun K hK=>?_)
    refine Kd.R_make_step (Kd.int .u8) _ 5 D16 (N:=16) rfl 24 _ _ rfl a1 rfl rfl Try.underlying24 (.int .u8 0) 1 info5 rfl D5 D13 0 (ok:=fun _=>True) (okp:=fun _=>True) rfl (fun _ hk=>hk) trivial (od D0) (Nat.le_trans (Nat.mul_le_mul_right _ (od D0:a1.toNat≤281474976710656)) D13) (Below.refl _ _) (Nat.le_refl _) ?_
    intro v110 w12 ho13 hb hg_ hnew_
    clear hg_ hnew_
    (first|rw [← Ny109.out] at ho13|(simp only [Int.reduceToNat] at ho13;rw [← Ny109.out] at ho13))
    replace HO_109000:=eS HO_109000 (Kd.R_base ho13) hb
    have HO111:=am (Kd.R_lower ho13 (pz (yW HB)))
    replace BK107:=yb BK107 hb
    replace BK108:=yb BK108 hb
    replace HB:=yH HB hb
    clear hb ho13
    obtain ⟨Ao15,co15,eo15⟩:=Kd.R_slice HO111.out
    (first|subst eo15|(injection eo15 with f1_ f2_ f3_;have f4_:=f1_.symm;have f5_:=f3_.symm;clear f1_ f2_ f3_;subst f4_;subst f5_))
    refine hK.out _ _ (yk BK108 0) (fun hHeld=>?_)
    clear hK K
    refine rN (nA 16) ?_
    refine rO (N:=some 17) HT_ rfl rfl D2 D5 (fun K hK=>?_)
    refine value_ (w1:=?_) (v:=?_) D16 rfl ?_ ?_
    rotate_left 2
    ·go_simp
     constructor
     ·rfl
     rfl
    refine hK.out _ _ ((blk_cell (qa BK108.out _) 0).trans rfl) (fun hHeld=>?_)
    clear hK K
    refine rN (nA 17) ?_
    refine rO (N:=some 18) HT_ rfl rfl D2 D5 (fun K hK=>?_)
    refine Kd.S_append_step (Kd.slice 5 (Kd.int .u8)) (w0:=w) w.heap.size D16 (.tmp 14) (.tmp 17) 25 24 (.slice none 0 0) 24 rfl Try.underlying25 info24 rfl D5 D13 u109000 x109000_1 y109 [.slice Ao15 y109.length co15] (fun _=>True) (fun k_=>some k_=(.slice Ao15 y109.length co15:Value).ownBlock) rfl rfl ?aP (fun k_ hk_=>((Kd.R_mono (ok':=fun k_=>((fun _=>True)) k_∧some k_ ≠ (u109000:Value).ownBlock) (Kd.R_apart' (HO111.out) (Kd.S_typed HO_109000.out) D5) (fun k_ hk=>⟨trivial,hk.2⟩))).1 k_ hk_.symm) ?aF ?aO ?aB ?aS ?aL ?_
    (case aP=>exact Kd.M_row (Kd.R_mono (Kd.R_tight rfl (Kd.R_mono (ok':=fun k_=>((fun _=>True)) k_∧some k_ ≠ (u109000:Value).ownBlock) (Kd.R_apart' (HO111.out) (Kd.S_typed HO_109000.out) D5) (fun k_ hk=>⟨trivial,hk.2⟩))) (fun _ h_=>h_)))
    (case aB=>exact (yW HB))
    (case aF=>exact (fun _ _=>trivial))
    (case aO=>exact (by refine sS ?_;exact Kd.S_mono HO_109000.out (fun k_ hk=>⟨trivial,fun e_=>hk.2 e_⟩)))
    (case aS=>exact (pz (yW HB)))
    (case aL=>have:=LMc10.out;omega)
    intro v113 w14 ho hb hg hat
    rw [← Ny112.out] at ho
    have n0_:=am (blk_grown (g:=gb107) (o:=.cells #[.slice none 0 0] 27 (0,0)) (yB BK107) hg (Kd.S_ne HO_109000.out BK107.out D5))
    have n1_:=am (blk_grown (g:=gb108) (o:=.cells #[u109000] 27 (0,0)) (yB BK108) hg (Kd.S_ne HO_109000.out BK108.out D5))
    have n2_:=am (hb)
    have n3_:=am (ho)
    clear BK107
    clear BK108
    clear HB
    clear HO_109000
    clear HO111
    have BK107:=n0_
    have BK108:=n1_
    have HB:=n2_
    have HO114:=n3_
    clear n0_ n1_ n2_ n3_
    clear ho hb hg hat
    obtain ⟨Ao16,co16,eo16⟩:=Kd.S_slice HO114.out
    (first|subst eo16|(injection eo16 with f1_ f2_ f3_;have f4_:=f1_.symm;have f5_:=f3_.symm;clear f1_ f2_ f3_;subst f4_;subst f5_))
    refine hK.out _ _ (yk BK108 0) (fun hHeld=>?_)
    clear hK K
    refine rN (nA 18) ?_
    refine rR ?_
    refine rL (N:=none) HT_ rfl rfl D2 D5 (fun K hK=>?_)
    have hs17:w14.cell? ⟨gb108,0,none⟩=some (u109000):=(blk_cell BK108.out 0).trans rfl
    have hfs17:=blk_frozen BK108.out 0
    have hns17_0:=NB107_108.out
    have hms17_0:=NB108_107.out
    refine skip_ (w1:=?_) D16 rfl ?_ ?_
    rotate_left
    ·go_simp
     rfl
    refine hK.out _ _ ?_
    clear hK K
    refine rD HT_ D2 ?_
    try go_wp2
    go_roundg k1
    case measure=>have:=HK1.out;omega
    case rel=>exact ⟨(wrap64 (x6_1+1)),(y112),(.slice Ao16 y112.length co16),D1,H',⟨D38⟩,⟨by refine sS ?_;exact Kd.S_mono (Kd.S_far (p:=⟨gb108,0,none⟩) (Kd.S_types HO114.out BK108.out D5) (fun _ hk=>hk.2) (.slice Ao16 y112.length co16)) (fun _ hk=>trivial)⟩,⟨yF BK107⟩,⟨by refine sB ?_;refine blk_put (cs:=#[u109000]) ?_ 0 _ rfl;exact yB BK108⟩,⟨yW HB⟩⟩
   rw [if_neg c7] at H
   have c7b0:=decide_eq_false c7
   clear c7
   obtain rfl:=Option.some.inj H
   have hnb18:=NB108_107.out
   have hnc18:=NB107_108.out
   obtain ⟨hcz19_0,hfz19_0⟩:=yk1 BK108
   obtain ⟨Ao20,co20,eo20⟩:=Kd.S_slice HO_109000.out
   subst eo20
   obtain ⟨hcz21_0,hfz21_0⟩:=yk1 BK107
   go_wp2
   refine bodyPost_ret (results_cell_row rfl _ _ gb107 27 #[.slice Ao20 x109000_1.length co20] (0,0) _ rfl (by refine sB ?_;refine blk_put (cs:=#[.slice none 0 0]) ?_ 0 _ rfl;exact yB BK107) Try.underlying27 rfl D2) rfl ?_
   exact ⟨_,D3,by refine sS ?_;exact Kd.S_mono (Kd.S_far (p:=⟨gb107,0,none⟩) (Kd.S_types HO_109000.out BK107.out D5) (fun _ hk=>hk.2) (.slice Ao20 x109000_1.length co20)) (fun _ hk=>trivial),yW HB⟩
mutual
def spec_l5Message.l0:Nat→List Int→Int→Int→Int→List (List Int)→Option ((List (List Int)))
 | 0,_,_,_,_,_=>none
 | k+1,x1,x5,x7,x8,x121000=>if x8 < 2 then (spec_l5Message.l1 k x1 x5 x7 x8 0 x121000) else (some x121000)
def spec_l5Message.l1:Nat→List Int→Int→Int→Int→Int→List (List Int)→Option ((List (List Int)))
 | 0,_,_,_,_,_,_=>none
 | k+1,x1,x5,x7,x8,x9,x121000=>if x9 < x5 then (spec_l5Message.l2 k x1 x5 x7 x8 x9 x9 x121000) else (spec_l5Message.l0 k x1 x5 x7 (wrap64 (x8+1)) x121000)
def spec_l5Message.l2:Nat→List Int→Int→Int→Int→Int→Int→List (List Int)→Option ((List (List Int)))
 | 0,_,_,_,_,_,_,_=>none
 | k+1,x1,x5,x7,x8,x9,x10,x121000=>if x10 < x5 then (if 0≤(wrap64 ((wrap64 (x8*x5))+x9)) then (if (wrap64 ((wrap64 (x8*x5))+x9)) < (x121000.length:Int) then (if 0≤x7 then (if x7 < (x1.length:Int) then (if 0≤x10 then (if x10 < ((rd_L1 x121000 (wrap64 ((wrap64 (x8*x5))+x9))).length:Int) then ((some (x121000.set ((wrap64 ((wrap64 (x8*x5))+x9)):Int).toNat ((rd_L1 x121000 (wrap64 ((wrap64 (x8*x5))+x9))).set (x10:Int).toNat (rd x1 x7)):List (List Int))).bind fun y125=>(if 0≤(wrap64 ((wrap64 (x8*x5))+x10)) then (if (wrap64 ((wrap64 (x8*x5))+x10)) < (x121000.length:Int) then (if 0≤x9 then (if x9 < ((rd_L1 y125 (wrap64 ((wrap64 (x8*x5))+x10))).length:Int) then (spec_l5Message.l2 k x1 x5 (wrap64 (x7+1)) x8 x9 (wrap64 (x10+1)) (y125.set ((wrap64 ((wrap64 (x8*x5))+x10)):Int).toNat ((rd_L1 y125 (wrap64 ((wrap64 (x8*x5))+x10))).set (x9:Int).toNat (rd x1 x7)))) else (none)) else (none)) else (none)) else (none))) else (none)) else (none)) else (none)) else (none)) else (none)) else (none)) else (spec_l5Message.l1 k x1 x5 x7 x8 (wrap64 (x9+1)) x121000)
end
def spec_l5Message.f (k:Nat) (a0_0:Int) (a0_1:Int) (l1:List Int):Option ((List (List Int))):=(spec_l2Blank.f k (wrap64 (2*(wrap64 (a0_1 - 1)))) (wrap64 (a0_1 - 1))).bind fun t117=>(spec_l5Message.l0 k l1 (wrap64 (a0_1 - 1)) 0 0 t117)
theorem spec_l5Message.mono_l:∀ k,(∀ y0 y1 y2 y3 y4,LeO (spec_l5Message.l0 k y0 y1 y2 y3 y4) (spec_l5Message.l0 (k+1) y0 y1 y2 y3 y4))∧(∀ y0 y1 y2 y3 y4 y5,LeO (spec_l5Message.l1 k y0 y1 y2 y3 y4 y5) (spec_l5Message.l1 (k+1) y0 y1 y2 y3 y4 y5))∧(∀ y0 y1 y2 y3 y4 y5 y6,LeO (spec_l5Message.l2 k y0 y1 y2 y3 y4 y5 y6) (spec_l5Message.l2 (k+1) y0 y1 y2 y3 y4 y5 y6))
 | 0=>⟨fun _ _ _ _ _ r h=>by simp [spec_l5Message.l0] at h,fun _ _ _ _ _ _ r h=>by simp [spec_l5Message.l1] at h,fun _ _ _ _ _ _ _ r h=>by simp [spec_l5Message.l2] at h⟩
 | k+1=>by
  obtain ⟨ih0,ih1,ih2⟩:=spec_l5Message.mono_l k
  refine ⟨?_,?_,?_⟩
  ·intro y0 y1 y2 y3 y4
   unfold spec_l5Message.l0
   exact mm
  ·intro y0 y1 y2 y3 y4 y5
   unfold spec_l5Message.l1
   exact mm
  intro y0 y1 y2 y3 y4 y5 y6
  unfold spec_l5Message.l2
  exact mm
theorem spec_l5Message.mono:∀ a0 a1 a2 k,LeO (spec_l5Message.f k a0 a1 a2) (spec_l5Message.f (k+1) a0 a1 a2):=by
 intro a0 a1 a2 k
 obtain ⟨ih0,ih1,ih2⟩:=spec_l5Message.mono_l k
 unfold spec_l5Message.f
 exact mm
def spec_l5Message.T13:Bool × List (List Nat × List Nat):=(true,[([],[]),([0],[0]),([],[]),([],[]),([2,3],[2,3]),([],[]),([4,5],[4,5]),([1,6],[1,6]),([7],[7]),([],[]),([],[]),([],[]),([10,11],[10,11]),([12],[12]),([8,9,0,1,2,3,4,5,6,7,8,9,10,11,12,13],[8,9]),([14,13,0,1,2,3,4,5,6,7,8,9,10,11,12,13],[13,14])])
def spec_l5Message.B13:List Nat:=[0,1,0,0,12,0,60,127,255,0,0,0,3072,7168,16383,32767]
theorem spec_l5Message.tab13:rtab .any (opsOf Try.f58 13)=spec_l5Message.T13:=by kernel_rfl
theorem spec_l5Message.bits13:waitsOk spec_l5Message.T13.2 spec_l5Message.B13=true:=by kernel_rfl
def spec_l5Message.T14:Bool × List (List Nat × List Nat):=(true,[([],[]),([0],[0]),([],[]),([],[]),([2,3],[2,3]),([],[]),([4,5],[4,5]),([1,6],[1,6]),([7],[7]),([],[]),([],[]),([],[]),([10,11],[10,11]),([12],[12]),([8,9,0,1,2,3,4,5,6,7,8,9,10,11,12,13],[8,9]),([14,13,0,1,2,3,4,5,6,7,8,9,10,11,12,13],[13,14])])
def spec_l5Message.B14:List Nat:=[0,1,0,0,12,0,60,127,255,0,0,0,3072,7168,16383,32767]
theorem spec_l5Message.tab14:rtab .any (opsOf Try.f58 14)=spec_l5Message.T14:=by kernel_rfl
theorem spec_l5Message.bits14:waitsOk spec_l5Message.T14.2 spec_l5Message.B14=true:=by kernel_rfl
theorem spec_l5Message.calls (k:Nat) (a0_0:Int) (a0_1:Int) (A1:Option Addr) (c1:Nat) (l1:List Int) (r:List (List Int)) (w:World) (hr1:Kd.C (Kd.int .u8) w A1 l1.length l1) (hc1:l1.length≤c1) (h:spec_l5Message.f k a0_0 a0_1 l1=some r) :
  Calls Try.prog 58 #[.agg #[.int .i64 a0_0, .int .i64 a0_1], .slice A1 l1.length c1] w fun e w'=>∃ v0_:Value,e = .returned (.agg #[v0_])∧Kd.S (Kd.slice 5 (Kd.int .u8)) 24 w' w.heap.size (fun _=>True) v0_ r∧Below w.heap.size w w':=by
 have hu30:=Try.underlying30
 have hu27:=Try.underlying27
 have HR1:=am hr1
 have HC1:=am hc1
 clear hr1 hc1
 have HB:=am (Below.refl w.heap.size w)
 have H:=h
 unfold spec_l5Message.f at H
 clear h
 obtain ⟨t117,A3,H⟩:=yo H
 have H':=am H
 clear H
 go_enter Try.func58,Try.ntmps58
 go_wp2_with (first|((with_reducible refine gD 2 ?_);refine gB (cs:=#[.int .i64 a0_0, .int .i64 a0_1]) 30 ?_;intro gb115 hg w4 hbox hb;have BK115:=am (hbox);have GW115:=ye HB hg;replace HB:=yH HB hb;have GE115:=GW115;clear hb hbox hg)|((with_reducible refine gD 4 ?_);refine gB (cs:=#[.slice none 0 0]) 27 ?_;intro gb116 hg w5 hbox hb;have BK116:=am (hbox);have GW116:=ye HB hg;replace HB:=yH HB hb;have NB115_116:=yl BK115 hg;have NB116_115:=yg BK115 hg;replace BK115:=yb BK115 hb;have GE116:=GW116;clear hb hbox hg;have hnb6:=NB115_116.out;have hnc6:=NB116_115.out;obtain ⟨hcz7_0,hcz7_1,hfz7_0,hfz7_1⟩:=yk2 BK115)|((with_reducible refine gC 124 ?_);refine gM (some 17) Try.func124 (args:=#[.int .i64 (wrap64 (2*(wrap64 (a0_1 - 1)))), .int .i64 (wrap64 (a0_1 - 1))]) (spec_l2Blank.calls k (wrap64 (2*(wrap64 (a0_1 - 1)))) (wrap64 (a0_1 - 1)) t117 _ A3.out) ?_;rintro e w8 ⟨v118,rfl,ho0,hb⟩;refine ⟨_,rfl,?_⟩;have HO119:=am (Kd.S_lower ho0 (pz (yW HB)));replace BK115:=yb BK115 hb;replace BK116:=yb BK116 hb;replace HB:=yH HB hb;clear hb ho0)|((with_reducible refine gD 6 ?_);refine gB (cs:=#[.slice none 0 0]) 27 ?_;intro gb120 hg w9 hbox hb;replace HO119:=bS HO119 hb;have BK120:=am (hbox);have GW120:=ye HB hg;replace HB:=yH HB hb;have NB115_120:=yl BK115 hg;have NB120_115:=yg BK115 hg;replace BK115:=yb BK115 hb;have NB116_120:=yl BK116 hg;have NB120_116:=yg BK116 hg;replace BK116:=yb BK116 hb;have GE120:=GW120;clear hb hbox hg;obtain ⟨Ao10,co10,eo10⟩:=Kd.S_slice HO119.out;subst eo10;have hnb11:=NB120_115.out;have hnc11:=NB115_120.out;have hnb12:=NB120_116.out;have hnc12:=NB116_120.out;obtain ⟨hcz13_0,hfz13_0⟩:=yk1 BK120))
 go_loopg [7,8] k (fun kq v7 v8 w'=>∃ (x7_1:Int) (x8_1:Int) (x121000_1:List (List Int)) (u121000:Value),v7 = .int .i64 x7_1∧v8 = .int .i64 x8_1∧Aside0 (spec_l5Message.l0 kq l1 (wrap64 (a0_1 - 1)) x7_1 x8_1 x121000_1=some r)∧Aside0 (kq≤k)∧Aside0 (Kd.S (Kd.slice 5 (Kd.int .u8)) 24 w' w.heap.size (fun _=>True) u121000 x121000_1)∧Aside0 (w'.heap[gb115]? = some (.cells #[.int .i64 a0_0, .int .i64 a0_1] 30 (0,0)))∧Aside0 (w'.heap[gb116]? = some (.cells #[(.slice none 0 0)] 27 (0,0)))∧Aside0 (w'.heap[gb120]? = some (.cells #[u121000] 27 (0,0)))∧Aside0 (Below w.heap.size w w'))
 case atStart=>exact ⟨(0),(0),(t117),(.slice Ao10 t117.length co10),D1,D1,H',⟨Nat.le_refl _⟩,⟨by refine sS ?_;exact Kd.S_mono (Kd.S_far (p:=⟨gb120,0,none⟩) (Kd.S_types HO119.out BK120.out D5) (fun _ hk=>hk.2) (.slice Ao10 t117.length co10)) (fun _ hk=>trivial)⟩,⟨yF BK115⟩,⟨yF BK116⟩,⟨by refine sB ?_;refine blk_put (cs:=#[.slice none 0 0]) ?_ 0 _ rfl;exact yB BK120⟩,⟨yW HB⟩⟩
 case round =>
  clear H'
  try clear c1
  try clear p2
  try clear c5
  try clear c6
  try clear p6
  try clear c11
  try clear c12
  try clear hcz13_0
  try clear hcz7_0
  try clear hcz7_1
  try clear hfz13_0
  try clear hfz7_0
  try clear hfz7_1
  obtain ⟨x7_1,x8_1,x121000_1,u121000,rfl,rfl,HA,HK1,HO_121000,BK115,BK116,BK120,HB⟩:=hrel
  cases gk with
  | zero=>exact absurd HA.out (by simp [spec_l5Message.l0])
  | succ k1 =>
   have H:=HA.out
   clear HA
   simp only [spec_l5Message.l0] at H
   by_cases c14:x8_1 < 2
   ·rw [if_pos c14] at H
    have c14b0:=decide_eq_true c14
    clear c14
    have H':=am H
    clear H
    go_wp2
    go_loopg [7,9] k1 (fun kq v7 v9 w'=>∃ (x7_2:Int) (x9_2:Int) (x121000_2:List (List Int)) (u121000:Value),v7 = .int .i64 x7_2∧v9 = .int .i64 x9_2∧Aside0 (spec_l5Message.l1 kq l1 (wrap64 (a0_1 - 1)) x7_2 x8_1 x9_2 x121000_2=some r)∧Aside0 (kq≤k1)∧Aside0 (Kd.S (Kd.slice 5 (Kd.int .u8)) 24 w' w.heap.size (fun _=>True) u121000 x121000_2)∧Aside0 (w'.heap[gb115]? = some (.cells #[.int .i64 a0_0, .int .i64 a0_1] 30 (0,0)))∧Aside0 (w'.heap[gb116]? = some (.cells #[(.slice none 0 0)] 27 (0,0)))∧Aside0 (w'.heap[gb120]? = some (.cells #[u121000] 27 (0,0)))∧Aside0 (Below w.heap.size w w'))
    case atStart=>exact ⟨(x7_1),(0),(x121000_1),(u121000),D1,D1,H',⟨Nat.le_refl _⟩,⟨yS HO_121000⟩,⟨yB BK115⟩,⟨yB BK116⟩,⟨yB BK120⟩,⟨yW HB⟩⟩
    case round =>
     clear H'
     try clear c1
     try clear p2
     try clear c5
     try clear c6
     try clear p6
     try clear c11
     try clear c12
     try clear c14
     try clear c14b0
     try clear hcz13_0
     try clear hcz7_0
     try clear hcz7_1
     try clear hfz13_0
     try clear hfz7_0
     try clear hfz7_1
     try clear p2
     try clear p6
     obtain ⟨x7_2,x9_2,x121000_2,u121000,rfl,rfl,HA,HK2,HO_121000,BK115,BK116,BK120,HB⟩:=hrel
     cases gk with
     | zero=>exact absurd HA.out (by simp [spec_l5Message.l1])
     | succ k2 =>
      have H:=HA.out
      clear HA
      simp only [spec_l5Message.l1] at H
      by_cases c15:x9_2 < (wrap64 (a0_1 - 1))
      ·rw [if_pos c15] at H
       have c15b0:=decide_eq_true c15
       clear c15
       have H':=am H
       clear H
       go_wp2
       go_loopg [7,10] k2 (fun kq v7 v10 w'=>∃ (x7_3:Int) (x10_3:Int) (x121000_3:List (List Int)) (u121000:Value),v7 = .int .i64 x7_3∧v10 = .int .i64 x10_3∧Aside0 (spec_l5Message.l2 kq l1 (wrap64 (a0_1 - 1)) x7_3 x8_1 x9_2 x10_3 x121000_3=some r)∧Aside0 (kq≤k2)∧Aside0 (Kd.S (Kd.slice 5 (Kd.int .u8)) 24 w' w.heap.size (fun _=>True) u121000 x121000_3)∧Aside0 (w'.heap[gb115]? = some (.cells #[.int .i64 a0_0, .int .i64 a0_1] 30 (0,0)))∧Aside0 (w'.heap[gb116]? = some (.cells #[(.slice none 0 0)] 27 (0,0)))∧Aside0 (w'.heap[gb120]? = some (.cells #[u121000] 27 (0,0)))∧Aside0 (Below w.heap.size w w'))
       case atStart=>exact ⟨(x7_2),(x9_2),(x121000_2),(u121000),D1,D1,H',⟨Nat.le_refl _⟩,⟨yS HO_121000⟩,⟨yB BK115⟩,⟨yB BK116⟩,⟨yB BK120⟩,⟨yW HB⟩⟩
       case round =>
        clear H'
        try clear c1
        try clear p2
        try clear c5
        try clear c6
        try clear p6
        try clear c11
        try clear c12
        try clear c14
        try clear c14b0
        try clear c15
        try clear c15b0
        try clear hcz13_0
        try clear hcz7_0
        try clear hcz7_1
        try clear hfz13_0
        try clear hfz7_0
        try clear hfz7_1
        try clear p2
        try clear p6
        obtain ⟨x7_3,x10_3,x121000_3,u121000,rfl,rfl,HA,HK3,HO_121000,BK115,BK116,BK120,HB⟩:=hrel
        cases gk with
        | zero=>exact absurd HA.out (by simp [spec_l5Message.l2])
        | succ k3 =>
         have H:=HA.out
         clear HA
         simp only [spec_l5Message.l2] at H
         by_cases c16:x10_3 < (wrap64 (a0_1 - 1))
         ·rw [if_pos c16] at H
          have c16b0:=decide_eq_true c16
          clear c16
          generalize hji17:(wrap64 ((wrap64 (x8_1*(wrap64 (a0_1 - 1))))+x9_2))=ji17 at H
          have hji17w:(IntKind.i64.wrap ((wrap64 (x8_1*(wrap64 (a0_1 - 1))))+x9_2))=ji17:=(i64_w _).trans hji17
          obtain ⟨c18,H⟩:=yi H
          have c18b0:=decide_eq_true c18
          clear c18
          obtain ⟨c19,H⟩:=yi H
          have c19b0:=decide_eq_true c19
          clear c19
          obtain ⟨c20,H⟩:=yi H
          have c20b0:=decide_eq_true c20
          clear c20
          obtain ⟨c21,H⟩:=yi H
          have c21b0:=decide_eq_true c21
          clear c21
          obtain ⟨c22,H⟩:=yi H
          have c22b0:=decide_eq_true c22
          clear c22
          obtain ⟨c23,H⟩:=yi H
          have c23b0:=decide_eq_true c23
          clear c23
          generalize hy123:((rd_L1 x121000_3 (ji17)).set (x10_3:Int).toNat (rd l1 x7_3):List Int)=y123 at H
          have Ny123:=am hy123.symm
          clear hy123
          obtain ⟨y125,hy125,H⟩:=ys H
          have Ny125:=am hy125
          clear hy125
          generalize hji25:(wrap64 ((wrap64 (x8_1*(wrap64 (a0_1 - 1))))+x10_3))=ji25 at H
          have hji25w:(IntKind.i64.wrap ((wrap64 (x8_1*(wrap64 (a0_1 - 1))))+x10_3))=ji25:=(i64_w _).trans hji25
          obtain ⟨c26,H⟩:=yi H
          have c26b0:=decide_eq_true c26
          clear c26
          obtain ⟨c27,H⟩:=yi H
          have c27b0:=decide_eq_true c27
          clear c27
          obtain ⟨c28,H⟩:=yi H
          have c28b0:=decide_eq_true c28
          clear c28
          obtain ⟨c29,H⟩:=yi H
          have c29b0:=decide_eq_true c29
          clear c29
          generalize hy128:((rd_L1 y125 (ji25)).set (x9_2:Int).toNat (rd l1 x7_3):List Int)=y128 at H
          have Ny128:=am hy128.symm
          clear hy128
          generalize hy130:(y125.set ((ji25):Int).toNat y128:List (List Int))=y130 at H
          have Ny130:=am hy130.symm
          clear hy130
          have H':=am H
          clear H
          try go_wp2
          replace HO_121000:=am (Kd.S_drew HO_121000.out)
          replace BK115:=am (qd BK115.out)
          replace BK116:=am (qd BK116.out)
          replace BK120:=am (qd BK120.out)
          replace HB:=am (pd HB.out)
          obtain ⟨Ao32,co32,eo32⟩:=Kd.S_slice HO_121000.out
          (first|subst eo32|(injection eo32 with f1_ f2_ f3_;have f4_:=f1_.symm;have f5_:=f3_.symm;clear f1_ f2_ f3_;subst f4_;subst f5_))
          have p121:0≤((ji17):Int):=od D0
          have q121:(ji17) < (x121000_3.length:Int):=od D0
          obtain ⟨ad121,A121_0,c121_0,e121,hx121_0,hl121_0,hi121_0⟩:=at_L1 (Kd.S_reads' HO_121000.out).2.2 (ji17) p121 q121
          cases e121
          obtain ⟨ce121,hce121,hMe121,hcc121⟩:=Kd.S_get HO_121000.out [] (ji17) p121 (by first|exact q121|exact od D0|(have e_:=(Kd.S_reads' HO_121000.out).1;omega))
          obtain ⟨ve121_0,rfl,ge121_0⟩:=hMe121
          have hv121_0:=hcc121 0 _ rfl
          rw [Nat.add_zero,show ((Kd.slice 5 (Kd.int .u8))).sz=1 from rfl,Nat.mul_one] at hv121_0
          replace hv121_0:=Option.some.inj (hv121_0.symm.trans hx121_0)
          rw [hv121_0] at ge121_0
          have HL121_0:=am (show Kd.R (Kd.int .u8) 5 _ _ _ _ (rd_L1 x121000_3 (ji17)) from ge121_0)
          clear hv121_0 ge121_0
          have HX121_0:=am hx121_0
          clear hcc121 hce121
          have HR121_0:=am hi121_0
          have HC121_0:=am hl121_0
          clear hi121_0 hl121_0
          replace p121:=eq_true p121
          replace q121:=eq_true q121
          have p122:0≤(x7_3:Int):=od D0
          have q122:x7_3 < (l1.length:Int):=od D0
          obtain ⟨ad122,e122,hx122_0⟩:=Kd.at_int HR1.out x7_3 p122 q122
          have hw122_0:=hx122_0
          cases e122
          replace hx122_0:=(HB.out.cell (World.block_lt_of_cell? w _ hx122_0)).trans hx122_0
          replace p122:=eq_true p122
          replace q122:=eq_true q122
          have p24:0≤(x10_3:Int):=od D0
          have q24:(x10_3:Int) < (((rd_L1 x121000_3 (ji17)).length:Int):Int):=od D0
          obtain ⟨go24,co24,eo24,gb24,gl24,cl24,HG24⟩:=Kd.R_form HL121_0.out D13
          (first|cases eo24|(injection eo24 with ea_ en_ ec_;(first|subst ea_|(injection ea_ with ea_;subst ea_));subst ec_;clear en_))
          have GB24:=am gb24
          have GG24:=am HG24
          clear gb24 gl24 HG24
          obtain ⟨hx24_0,hf24_0⟩:=Kd.R_celln 0 HL121_0.out (x10_3:Int) p24 q24
          replace p24:=eq_true p24
          replace q24:=eq_true q24
          have hq33:((ji17):Int) < (x121000_3.length:Int):=(by have h_:((ji17):Int) < ((x121000_3.length:Int):Int):=od D0;first|exact h_|(have e_:=(Kd.S_reads' HO_121000.out).1;omega)|simpa only [List.length_set,List.length_set] using h_)
          obtain ⟨oki33,ce33,hcl33,hM33,hcc33,hok33,hbk33⟩:=Kd.S_borrow HO_121000.out [] ((ji17):Int) (od D0) hq33
          obtain ⟨ve33_0,rfl,ge33_0⟩:=hM33
          have hv33:=hcc33 0 _ rfl
          rw [Nat.add_zero,show ((Kd.slice 5 (Kd.int .u8))).sz=1 from rfl,Nat.mul_one] at hv33
          replace hv33:=Option.some.inj (hv33.symm.trans HX121_0.out)
          subst hv33
          clear hcc33 hcl33
          replace ge33_0:=(show Kd.R (Kd.int .u8) 5 _ _ _ _ (rd_L1 x121000_3 (ji17)) from ge33_0)
          have HP33:=Kd.R_putg ge33_0 (x10_3:Int) (rd l1 x7_3)
          rw [← Ny123.out] at HP33
          have HS33:=hbk33 HP33.2 (fun k_ e_=>by injection e_ with e_;subst e_;exact ge33_0.1 _ rfl) (x':=y123) (Kd.M_row HP33.1)
          rw [← Ny125.out] at HS33
          have HQ33:=am HS33
          clear HP33 HS33 hbk33 hok33
          refine rS (n:=16) (S:=fun w'=>w'.cell? ⟨gb120,0,none⟩=some (.slice (some ad121) x121000_3.length co32)∧w'.cell? (ad121.add ((ji17)).toNat)=some (.slice (some ⟨go24,0,none⟩) (rd_L1 x121000_3 (ji17)).length c121_0)∧w'.cell? (ad122.add (x7_3).toNat)=some (.int .u8 (rd l1 x7_3))) (ds:=[15]) [(0,33),(2,35),(3,36),(4,37),(5,38),(6,39),(9,42),(10,43),(11,44),(12,45),(1,34),(7,40),(8,41),(13,46),(14,47),(15,0)] D2 rfl spec_l5Message.tab13 spec_l5Message.bits13 ⟨yk BK120 0,hx121_0,((HB.out.cell (World.block_lt_of_cell? w _ hw122_0)).trans hw122_0)⟩ (fun hHeld HT_ HW_=>?_)
          generalize wr.drew=w31 at HO_121000 BK115 BK116 BK120 HB GG24 HL121_0 HQ33 HR121_0 HX121_0 hf24_0 hx121_0 hx122_0 hx24_0 hHeld ⊢
          refine rR ?_
          refine rL (N:=none) HT_ rfl rfl D2 D5 (fun K hK=>?_)
          refine skip_ (w1:=?_) D16 rfl ?_ ?_
          rotate_left
          ·go_simp
           rfl
          refine hK.out _ _ ?_
          clear hK K
          refine rD HT_ D2 ?_
          try go_wp2
          generalize hw_:(w31.setCell ⟨go24,(x10_3:Int).toNat,none⟩ (.int .u8 (rd l1 x7_3)))=w35
          replace HO_121000:Aside0 (Kd.S (Kd.slice 5 (Kd.int .u8)) 24 w35 w.heap.size (fun _=>True) (.slice (some ad121) x121000_3.length co32) y125):=⟨by rw [← hw_];exact yS HQ33⟩
          replace BK115:Aside0 (w35.heap[gb115]? = some (.cells #[.int .i64 a0_0, .int .i64 a0_1] 30 (0,0))):=⟨by rw [← hw_];refine sB ?_;refine blk_far ?_ (by have h_:=Kd.R_ne HL121_0.out BK115.out D5;intro e_;exact h_ (by rw [e_];rfl)) _;exact yB BK115⟩
          replace BK116:Aside0 (w35.heap[gb116]? = some (.cells #[.slice none 0 0] 27 (0,0))):=⟨by rw [← hw_];refine sB ?_;refine blk_far ?_ (by have h_:=Kd.R_ne HL121_0.out BK116.out D5;intro e_;exact h_ (by rw [e_];rfl)) _;exact yB BK116⟩
          replace BK120:Aside0 (w35.heap[gb120]? = some (.cells #[.slice (some ad121) x121000_3.length co32] 27 (0,0))):=⟨by rw [← hw_];refine sB ?_;refine blk_far ?_ (by have h_:=Kd.R_ne HL121_0.out BK120.out D5;intro e_;exact h_ (by rw [e_];rfl)) _;exact yB BK120⟩
          replace HB:Aside0 (Below w.heap.size w w35):=⟨by rw [← hw_];repeat (first|(with_reducible first|exact HB.out|apply pa|apply pb|apply pd|refine pt ?_ GB24.out|refine pt ?_ GE115.out|refine pt ?_ GE116.out|refine pt ?_ GE120.out)|exact HB.out)⟩
          clear hw_
          replace HO_121000:=am (Kd.S_drew HO_121000.out)
          replace BK115:=am (qd BK115.out)
          replace BK116:=am (qd BK116.out)
          replace BK120:=am (qd BK120.out)
          replace HB:=am (pd HB.out)
          have p126:0≤((ji25):Int):=od D0
          have q126:(ji25) < (y125.length:Int):=(by have h_:((ji25):Int) < ((x121000_3.length:Int):Int):=od D0;first|(have e_:=(Kd.S_reads' HO_121000.out).1;omega)|simpa only [Ny125.out,List.length_set] using h_)
          have ql126:(((ji25):Int) < ((x121000_3.length:Int):Int))=True:=eq_true (od D0)
          obtain ⟨ad126,A126_0,c126_0,e126,hx126_0,hl126_0,hi126_0⟩:=at_L1 (Kd.S_reads' HO_121000.out).2.2 (ji25) p126 q126
          obtain rfl:ad121=ad126:=(by injection e126)
          obtain ⟨ce126,hce126,hMe126,hcc126⟩:=Kd.S_get HO_121000.out [] (ji25) p126 (by first|exact q126|exact od D0|(have e_:=(Kd.S_reads' HO_121000.out).1;omega))
          obtain ⟨ve126_0,rfl,ge126_0⟩:=hMe126
          have hv126_0:=hcc126 0 _ rfl
          rw [Nat.add_zero,show ((Kd.slice 5 (Kd.int .u8))).sz=1 from rfl,Nat.mul_one] at hv126_0
          replace hv126_0:=Option.some.inj (hv126_0.symm.trans hx126_0)
          rw [hv126_0] at ge126_0
          have HL126_0:=am (show Kd.R (Kd.int .u8) 5 _ _ _ _ (rd_L1 y125 (ji25)) from ge126_0)
          clear hv126_0 ge126_0
          have HX126_0:=am hx126_0
          clear hcc126 hce126
          have HR126_0:=am hi126_0
          have HC126_0:=am hl126_0
          clear hi126_0 hl126_0
          replace p126:=eq_true p126
          replace q126:=eq_true q126
          have p127:0≤(x7_3:Int):=od D0
          have q127:x7_3 < (l1.length:Int):=od D0
          obtain ⟨ad127,e127,hx127_0⟩:=Kd.at_int HR1.out x7_3 p127 q127
          have hw127_0:=hx127_0
          obtain rfl:ad122=ad127:=(by injection e127)
          replace hx127_0:=(HB.out.cell (World.block_lt_of_cell? w _ hx127_0)).trans hx127_0
          replace p127:=eq_true p127
          replace q127:=eq_true q127
          have p30:0≤(x9_2:Int):=od D0
          have q30:(x9_2:Int) < (((rd_L1 y125 (ji25)).length:Int):Int):=od D0
          obtain ⟨go30,co30,eo30,gb30,gl30,cl30,HG30⟩:=Kd.R_form HL126_0.out D13
          (first|cases eo30|(injection eo30 with ea_ en_ ec_;(first|subst ea_|(injection ea_ with ea_;subst ea_));subst ec_;clear en_))
          have GB30:=am gb30
          have GG30:=am HG30
          clear gb30 gl30 HG30
          obtain ⟨hx30_0,hf30_0⟩:=Kd.R_celln 0 HL126_0.out (x9_2:Int) p30 q30
          replace p30:=eq_true p30
          replace q30:=eq_true q30
          have hq37:((ji25):Int) < (x121000_3.length:Int):=od D0
          obtain ⟨oki37,ce37,hcl37,hM37,hcc37,hok37,hbk37⟩:=Kd.S_borrow HO_121000.out [] ((ji25):Int) (od D0) hq37
          obtain ⟨ve37_0,rfl,ge37_0⟩:=hM37
          have hv37:=hcc37 0 _ rfl
          rw [Nat.add_zero,show ((Kd.slice 5 (Kd.int .u8))).sz=1 from rfl,Nat.mul_one] at hv37
          replace hv37:=Option.some.inj (hv37.symm.trans HX126_0.out)
          subst hv37
          clear hcc37 hcl37
          replace ge37_0:=(show Kd.R (Kd.int .u8) 5 _ _ _ _ (rd_L1 y125 (ji25)) from ge37_0)
          have HP37:=Kd.R_putg ge37_0 (x9_2:Int) (rd l1 x7_3)
          rw [← Ny128.out] at HP37
          have HS37:=hbk37 HP37.2 (fun k_ e_=>by injection e_ with e_;subst e_;exact ge37_0.1 _ rfl) (x':=y128) (Kd.M_row HP37.1)
          rw [← Ny130.out] at HS37
          have HQ37:=am HS37
          clear HP37 HS37 hbk37 hok37
          refine rS (n:=16) (S:=fun w'=>w'.cell? ⟨gb120,0,none⟩=some (.slice (some ad121) x121000_3.length co32)∧w'.cell? (ad121.add ((ji25)).toNat)=some (.slice (some ⟨go30,0,none⟩) (rd_L1 y125 (ji25)).length c126_0)∧w'.cell? (ad122.add (x7_3).toNat)=some (.int .u8 (rd l1 x7_3))) (ds:=[15]) [(0,48),(2,50),(3,51),(4,52),(5,53),(6,54),(9,57),(10,58),(11,59),(12,60),(1,49),(7,55),(8,56),(13,61),(14,62),(15,0)] D2 rfl spec_l5Message.tab14 spec_l5Message.bits14 ⟨yk BK120 0,hx126_0,((HB.out.cell (World.block_lt_of_cell? w _ hw127_0)).trans hw127_0)⟩ (fun hHeld HT_ HW_=>?_)
          generalize w35.drew=w36 at HO_121000 BK115 BK116 BK120 HB GG30 HL126_0 HQ33 HQ37 HR126_0 HX126_0 hf30_0 hx126_0 hx127_0 hx30_0 hHeld ⊢
          refine rR ?_
          refine rL (N:=none) HT_ rfl rfl D2 D5 (fun K hK=>?_)
          refine skip_ (w1:=?_) D16 rfl ?_ ?_
          rotate_left
          ·go_simp
           rfl
          refine hK.out _ _ ?_
          clear hK K
          refine rD HT_ D2 ?_
          try go_wp2
          go_roundg k3
          case measure=>have:=HK1.out;have:=HK2.out;have:=HK3.out;omega
          case rel=>exact ⟨(wrap64 (x7_3+1)),(wrap64 (x10_3+1)),(y130),(.slice (some ad121) x121000_3.length co32),D1,D1,H',⟨by have:=HK1.out;have:=HK2.out;have:=HK3.out;omega⟩,⟨yS HQ37⟩,⟨by refine sB ?_;refine blk_far ?_ (by have h_:=Kd.R_ne HL126_0.out BK115.out D5;intro e_;exact h_ (by rw [e_];rfl)) _;exact yB BK115⟩,⟨by refine sB ?_;refine blk_far ?_ (by have h_:=Kd.R_ne HL126_0.out BK116.out D5;intro e_;exact h_ (by rw [e_];rfl)) _;exact yB BK116⟩,⟨by refine sB ?_;refine blk_far ?_ (by have h_:=Kd.R_ne HL126_0.out BK120.out D5;intro e_;exact h_ (by rw [e_];rfl)) _;exact yB BK120⟩,⟨by repeat (first|(with_reducible first|exact HB.out|apply pa|apply pb|apply pd|refine pt ?_ GB30.out|refine pt ?_ GE115.out|refine pt ?_ GE116.out|refine pt ?_ GE120.out)|exact HB.out)⟩⟩
         rw [if_neg c16] at H
         have c16b0:=decide_eq_false c16
         clear c16
         have H':=am H
         clear H
         go_wp2
         go_roundg k3
         case measure=>have:=HK1.out;have:=HK2.out;have:=HK3.out;omega
         case rel=>exact ⟨(x7_3),(wrap64 (x9_2+1)),(x121000_3),(u121000),D1,D1,H',⟨by have:=HK1.out;have:=HK2.out;have:=HK3.out;omega⟩,⟨yS HO_121000⟩,⟨yB BK115⟩,⟨yB BK116⟩,⟨yB BK120⟩,⟨yW HB⟩⟩
      rw [if_neg c15] at H
      have c15b0:=decide_eq_false c15
      clear c15
      have H':=am H
      clear H
      go_wp2
      go_roundg k2
      case measure=>have:=HK1.out;have:=HK2.out;omega
      case rel=>exact ⟨(x7_2),(wrap64 (x8_1+1)),(x121000_2),(u121000),D1,D1,H',⟨D93⟩,⟨yS HO_121000⟩,⟨yB BK115⟩,⟨yB BK116⟩,⟨yB BK120⟩,⟨yW HB⟩⟩
   rw [if_neg c14] at H
   have c14b0:=decide_eq_false c14
   clear c14
   obtain rfl:=Option.some.inj H
   have hnb39:=NB120_115.out
   have hnc39:=NB115_120.out
   have hnb40:=NB120_116.out
   have hnc40:=NB116_120.out
   obtain ⟨hcz41_0,hfz41_0⟩:=yk1 BK120
   obtain ⟨Ao42,co42,eo42⟩:=Kd.S_slice HO_121000.out
   subst eo42
   have hnb43:=NB116_115.out
   have hnc43:=NB115_116.out
   obtain ⟨hcz44_0,hfz44_0⟩:=yk1 BK116
   go_wp2
   refine bodyPost_ret (results_cell_row rfl _ _ gb116 27 #[.slice Ao42 x121000_1.length co42] (0,0) _ rfl (by refine sB ?_;refine blk_put (cs:=#[.slice none 0 0]) ?_ 0 _ rfl;exact yB BK116) Try.underlying27 rfl D2) rfl ?_
   exact ⟨_,D3,by refine sS ?_;exact Kd.S_mono (Kd.S_far (p:=⟨gb116,0,none⟩) (Kd.S_types HO_121000.out BK116.out D5) (fun _ hk=>hk.2) (.slice Ao42 x121000_1.length co42)) (fun _ hk=>trivial),yW HB⟩

def spec_l1Times.l0:Nat→Int→Int→Int→Option (Int)
 | 0,_,_,_=>none
 | k+1,x5,x6,x7=>if x7 > 0 then (if (Go.bits .and .i64 x7 1)=1 then (if (wrap64 (x6*2)) > 255 then (spec_l1Times.l0 k (Go.bits .xor .i64 x5 x6) (Go.bits .xor .i64 (wrap64 (x6*2)) 283) (x7 / 2)) else (spec_l1Times.l0 k (Go.bits .xor .i64 x5 x6) (wrap64 (x6*2)) (x7 / 2))) else (if (wrap64 (x6*2)) > 255 then (spec_l1Times.l0 k x5 (Go.bits .xor .i64 (wrap64 (x6*2)) 283) (x7 / 2)) else (spec_l1Times.l0 k x5 (wrap64 (x6*2)) (x7 / 2)))) else (some ((x5) % 256))
def spec_l1Times.f (k:Nat) (a0:Int) (a1:Int):Option (Int):=spec_l1Times.l0 k 0 (wrap64 (a0)) (wrap64 (a1))
theorem spec_l1Times.mono_l:∀ k,(∀ y0 y1 y2,LeO (spec_l1Times.l0 k y0 y1 y2) (spec_l1Times.l0 (k+1) y0 y1 y2))
 | 0=>fun _ _ _ r h=>by simp [spec_l1Times.l0] at h
 | k+1=>by
  have ih0:=spec_l1Times.mono_l k
  intro y0 y1 y2
  unfold spec_l1Times.l0
  exact mm
theorem spec_l1Times.mono:∀ a0 a1 k,LeO (spec_l1Times.f k a0 a1) (spec_l1Times.f (k+1) a0 a1):=by
 intro a0 a1 k
 have ih0:=spec_l1Times.mono_l k
 unfold spec_l1Times.f
 exact mm
theorem spec_l1Times.calls (k:Nat) (a0:Int) (a1:Int) (r:Int) (w:World) (h:spec_l1Times.f k a0 a1=some r) :
  Calls Try.prog 152 #[.int .u8 a0, .int .u8 a1] w fun e w'=>e = .returned (.int .u8 r)∧Drawn0 w w':=by
 have H:=h
 unfold spec_l1Times.f at H
 clear h
 have H':=am H
 clear H
 go_enter Try.func152,Try.ntmps152
 go_wp2
 go_loopg [5,6,7] k (fun kq v5 v6 v7 w'=>∃ (x5_1:Int) (x6_1:Int) (x7_1:Int),v5 = .int .i64 x5_1∧v6 = .int .i64 x6_1∧v7 = .int .i64 x7_1∧Aside0 (spec_l1Times.l0 kq x5_1 x6_1 x7_1=some r)∧Aside0 (kq≤k)∧Drawn0 w w')
 case atStart=>exact ⟨(0),(wrap64 (a0)),(wrap64 (a1)),D1,D1,D1,H',⟨Nat.le_refl _⟩,D15⟩
 case round =>
  clear H'
  try clear c1
  try clear p2
  obtain ⟨x5_1,x6_1,x7_1,rfl,rfl,rfl,HA,HK1,⟨m1,rfl⟩⟩:=hrel
  cases gk with
  | zero=>exact absurd HA.out (by simp [spec_l1Times.l0])
  | succ k1 =>
   have H:=HA.out
   clear HA
   simp only [spec_l1Times.l0] at H
   by_cases c3:x7_1 > 0
   ·rw [if_pos c3] at H
    have c3b0:decide (0 < x7_1)=true:=decide_eq_true c3
    clear c3
    by_cases c4:(Go.bits .and .i64 x7_1 1)=1
    ·rw [if_pos c4] at H
     have c4b0:((Go.bits .and .i64 x7_1 1) == 1)=true:=beq_iff_eq.mpr c4
     have c4b1:((Go.bits .and .i64 x7_1 1) != 1)=false:=bne_eq_false_iff_eq.mpr c4
     clear c4
     by_cases c5:(wrap64 (x6_1*2)) > 255
     ·rw [if_pos c5] at H
      have c5b0:decide (255 < (wrap64 (x6_1*2)))=true:=decide_eq_true c5
      clear c5
      have H':=am H
      clear H
      go_wp2
      go_roundg k1
      case measure=>have:=HK1.out;omega
      case rel=>exact ⟨(Go.bits .xor .i64 x5_1 x6_1),(Go.bits .xor .i64 (wrap64 (x6_1*2)) 283),(x7_1 / 2),D1,D1,D1,H',⟨D38⟩,D15⟩
     rw [if_neg c5] at H
     have c5b0:decide (255 < (wrap64 (x6_1*2)))=false:=decide_eq_false c5
     clear c5
     have H':=am H
     clear H
     go_wp2
     go_roundg k1
     case measure=>have:=HK1.out;omega
     case rel=>exact ⟨(Go.bits .xor .i64 x5_1 x6_1),(wrap64 (x6_1*2)),(x7_1 / 2),D1,D1,D1,H',⟨D38⟩,D15⟩
    rw [if_neg c4] at H
    have c4b0:((Go.bits .and .i64 x7_1 1) == 1)=false:=beq_eq_false_iff_ne.mpr c4
    have c4b1:((Go.bits .and .i64 x7_1 1) != 1)=true:=bne_iff_ne.mpr c4
    by_cases c6:(wrap64 (x6_1*2)) > 255
    ·rw [if_pos c6] at H
     have c6b0:decide (255 < (wrap64 (x6_1*2)))=true:=decide_eq_true c6
     clear c6
     have H':=am H
     clear H
     go_wp2
     go_roundg k1
     case measure=>have:=HK1.out;omega
     case rel=>exact ⟨(x5_1),(Go.bits .xor .i64 (wrap64 (x6_1*2)) 283),(x7_1 / 2),D1,D1,D1,H',⟨D38⟩,D15⟩
    rw [if_neg c6] at H
    have c6b0:decide (255 < (wrap64 (x6_1*2)))=false:=decide_eq_false c6
    clear c6
    have H':=am H
    clear H
    go_wp2
    go_roundg k1
    case measure=>have:=HK1.out;omega
    case rel=>exact ⟨(x5_1),(wrap64 (x6_1*2)),(x7_1 / 2),D1,D1,D1,H',⟨D38⟩,D15⟩
   rw [if_neg c3] at H
   have c3b0:decide (0 < x7_1)=false:=decide_eq_false c3
   clear c3
   obtain rfl:=Option.some.inj H
   go_wp2
   go_ret
   exact ⟨D1,D15⟩
def spec_l1Dot.l0:Nat→List Int→List Int→Int→Int→Int→Option (Int)
 | 0,_,_,_,_,_=>none
 | k+1,x0,x1,x5,x8,x9=>if x9 < x8 then (if 0≤x9 then (if x9 < (x0.length:Int) then (if x9 < (x1.length:Int) then ((spec_l1Times.f k (rd x0 x9) (rd x1 x9)).bind fun t133=>(spec_l1Dot.l0 k x0 x1 (Go.bits .xor .u8 x5 t133) x8 (wrap64 (x9+1)))) else (none)) else (none)) else (none)) else (some x5)
def spec_l1Dot.f (k:Nat) (l0:List Int) (l1:List Int):Option (Int):=spec_l1Dot.l0 k l0 l1 0 (l0.length:Int) 0
theorem spec_l1Dot.mono_l:∀ k,(∀ y0 y1 y2 y3 y4,LeO (spec_l1Dot.l0 k y0 y1 y2 y3 y4) (spec_l1Dot.l0 (k+1) y0 y1 y2 y3 y4))
 | 0=>fun _ _ _ _ _ r h=>by simp [spec_l1Dot.l0] at h
 | k+1=>by
  have ih0:=spec_l1Dot.mono_l k
  intro y0 y1 y2 y3 y4
  unfold spec_l1Dot.l0
  exact mm
theorem spec_l1Dot.mono:∀ a0 a1 k,LeO (spec_l1Dot.f k a0 a1) (spec_l1Dot.f (k+1) a0 a1):=by
 intro a0 a1 k
 have ih0:=spec_l1Dot.mono_l k
 unfold spec_l1Dot.f
 exact mm
theorem spec_l1Dot.calls (k:Nat) (A0:Option Addr) (c0:Nat) (l0:List Int) (A1:Option Addr) (c1:Nat) (l1:List Int) (r:Int) (w:World) (hr0:Kd.C (Kd.int .u8) w A0 l0.length l0) (hc0:l0.length≤c0) (hr1:Kd.C (Kd.int .u8) w A1 l1.length l1) (hc1:l1.length≤c1) (h:spec_l1Dot.f k l0 l1=some r) :
  Calls Try.prog 150 #[.slice A0 l0.length c0, .slice A1 l1.length c1] w fun e w'=>e = .returned (.int .u8 r)∧Drawn0 w w':=by
 have HR0:=am hr0
 have HC0:=am hc0
 clear hr0 hc0
 have HR1:=am hr1
 have HC1:=am hc1
 clear hr1 hc1
 have H:=h
 unfold spec_l1Dot.f at H
 clear h
 have H':=am H
 clear H
 go_enter Try.func150,Try.ntmps150
 go_wp2
 repeat (go_quiet (fail);try go_wp2)
 go_loopg [5,9] k (fun kq v5 v9 w'=>∃ (x5_1:Int) (x9_1:Int),v5 = .int .u8 x5_1∧v9 = .int .i64 x9_1∧Aside0 (spec_l1Dot.l0 kq l0 l1 x5_1 (l0.length:Int) x9_1=some r)∧Aside0 (kq≤k)∧Drawn0 w w')
 case atStart=>exact ⟨(0),(0),D1,D1,H',⟨Nat.le_refl _⟩,D15⟩
 case round =>
  clear H'
  try clear c1
  try clear p2
  obtain ⟨x5_1,x9_1,rfl,rfl,HA,HK1,⟨m1,rfl⟩⟩:=hrel
  cases gk with
  | zero=>exact absurd HA.out (by simp [spec_l1Dot.l0])
  | succ k1 =>
   have H:=HA.out
   clear HA
   simp only [spec_l1Dot.l0] at H
   by_cases c3:x9_1 < (l0.length:Int)
   ·rw [if_pos c3] at H
    have c3b0:=decide_eq_true c3
    clear c3
    obtain ⟨c4,H⟩:=yi H
    have c4b0:=decide_eq_true c4
    clear c4
    obtain ⟨c5,H⟩:=yi H
    have c5b0:=decide_eq_true c5
    clear c5
    obtain ⟨c6,H⟩:=yi H
    have c6b0:=decide_eq_true c6
    clear c6
    obtain ⟨t133,A7,H⟩:=yo H
    have H':=am H
    clear H
    have p131:0≤(x9_1:Int):=od D0
    have q131:x9_1 < (l0.length:Int):=od D0
    obtain ⟨ad131,e131,hx131_0⟩:=Kd.at_int HR0.out x9_1 p131 q131
    cases e131
    replace p131:=eq_true p131
    replace q131:=eq_true q131
    have p132:0≤(x9_1:Int):=od D0
    have q132:x9_1 < (l1.length:Int):=od D0
    obtain ⟨ad132,e132,hx132_0⟩:=Kd.at_int HR1.out x9_1 p132 q132
    cases e132
    replace p132:=eq_true p132
    replace q132:=eq_true q132
    go_wp2_with (first|(go_at_call 152;(with_reducible refine (spec_l1Times.calls k1 (rd l0 x9_1) (rd l1 x9_1) t133 _ A7.out).mono ?_);rintro e w' ⟨rfl,⟨nd,rfl⟩⟩;(try first|exact ⟨rfl,_,World.drewN_drewN _ _ _⟩|exact ⟨rfl,_,Eq.trans (World.drewN_drewN _ _ _) (congrArg (World.drewN _) (Nat.add_assoc _ _ _))⟩)))
    repeat (go_quiet (first|(go_at_call 152;(with_reducible refine (spec_l1Times.calls k1 (rd l0 x9_1) (rd l1 x9_1) t133 _ A7.out).mono ?_);rintro e w' ⟨rfl,⟨nd,rfl⟩⟩;(try first|exact ⟨rfl,_,World.drewN_drewN _ _ _⟩|exact ⟨rfl,_,Eq.trans (World.drewN_drewN _ _ _) (congrArg (World.drewN _) (Nat.add_assoc _ _ _))⟩)));try go_wp2_with (first|(go_at_call 152;(with_reducible refine (spec_l1Times.calls k1 (rd l0 x9_1) (rd l1 x9_1) t133 _ A7.out).mono ?_);rintro e w' ⟨rfl,⟨nd,rfl⟩⟩;(try first|exact ⟨rfl,_,World.drewN_drewN _ _ _⟩|exact ⟨rfl,_,Eq.trans (World.drewN_drewN _ _ _) (congrArg (World.drewN _) (Nat.add_assoc _ _ _))⟩))))
    go_roundg k1
    case measure=>have:=HK1.out;omega
    case rel=>exact ⟨(Go.bits .xor .u8 x5_1 t133),(wrap64 (x9_1+1)),D1,D1,H',⟨D38⟩,D15⟩
   rw [if_neg c3] at H
   have c3b0:=decide_eq_false c3
   clear c3
   obtain rfl:=Option.some.inj H
   go_wp2
   repeat (go_quiet (fail);try go_wp2)
   go_ret
   exact ⟨D1,D15⟩

def spec_l2Apply.l0:Nat→List Int→List Int→List (List Int)→Int→Int→Option (List Int)
 | 0,_,_,_,_,_=>none
 | k+1,x1,x5,x9,x10,x11=>if x11 < x10 then (if 0≤x11 then (if x11 < (x9.length:Int) then ((spec_l1Dot.f k (rd_L1 x9 x11) x1).bind fun t136=>(if x5.length < 140737488355328 then (spec_l2Apply.l0 k x1 (x5 ++ [t136]) x9 x10 (wrap64 (x11+1))) else (none))) else (none)) else (none)) else (some x5)
def spec_l2Apply.f (k:Nat) (l0_0:List (List Int)) (l1:List Int):Option (List Int):=spec_l2Apply.l0 k l1 ([]:List Int) l0_0 (l0_0.length:Int) 0
theorem spec_l2Apply.mono_l:∀ k,(∀ y0 y1 y2 y3 y4,LeO (spec_l2Apply.l0 k y0 y1 y2 y3 y4) (spec_l2Apply.l0 (k+1) y0 y1 y2 y3 y4))
 | 0=>fun _ _ _ _ _ r h=>by simp [spec_l2Apply.l0] at h
 | k+1=>by
  have ih0:=spec_l2Apply.mono_l k
  intro y0 y1 y2 y3 y4
  unfold spec_l2Apply.l0
  exact mm
theorem spec_l2Apply.mono:∀ a0 a1 k,LeO (spec_l2Apply.f k a0 a1) (spec_l2Apply.f (k+1) a0 a1):=by
 intro a0 a1 k
 have ih0:=spec_l2Apply.mono_l k
 unfold spec_l2Apply.f
 exact mm
theorem spec_l2Apply.calls (k:Nat) (A0_0:Option Addr) (c0_0:Nat) (l0_0:List (List Int)) (A1:Option Addr) (c1:Nat) (l1:List Int) (r:List Int) (w:World) (hr0_0:Kd.C (Kd.slice 5 (Kd.int .u8)) w A0_0 l0_0.length l0_0) (hc0_0:l0_0.length≤c0_0) (hr1:Kd.C (Kd.int .u8) w A1 l1.length l1) (hc1:l1.length≤c1) (h:spec_l2Apply.f k l0_0 l1=some r) :
  Calls Try.prog 115 #[.agg #[.slice A0_0 l0_0.length c0_0], .slice A1 l1.length c1] w fun e w'=>∃ v0_:Value,e = .returned (v0_)∧Kd.R (Kd.int .u8) 5 w' w.heap.size (fun _=>True) v0_ r∧Below w.heap.size w w':=by
 have hu27:=Try.underlying27
 have HR0_0:=am hr0_0
 have HC0_0:=am hc0_0
 clear hr0_0 hc0_0
 have HR1:=am hr1
 have HC1:=am hc1
 clear hr1 hc1
 have HB:=am (Below.refl w.heap.size w)
 have H:=h
 unfold spec_l2Apply.f at H
 clear h
 have H':=am H
 clear H
 go_enter Try.func115,Try.ntmps115
 go_wp2_with (first|((with_reducible refine gD 2 ?_);refine gB (cs:=#[.slice A0_0 l0_0.length c0_0]) 27 ?_;intro gb134 hg w3 hbox hb;have BK134:=am (hbox);have GW134:=ye HB hg;replace HB:=yH HB hb;have GE134:=GW134;clear hb hbox hg;obtain ⟨hcz4_0,hfz4_0⟩:=yk1 BK134))
 go_loopg [5,11] k (fun kq v5 v11 w'=>∃ (x5_1:List Int) (x11_1:Int),v11 = .int .i64 x11_1∧Aside0 (spec_l2Apply.l0 kq l1 x5_1 l0_0 (l0_0.length:Int) x11_1=some r)∧Aside0 (kq≤k)∧Aside0 (Kd.R (Kd.int .u8) 5 w' w.heap.size (fun _=>True) v5 x5_1)∧Aside0 (w'.heap[gb134]? = some (.cells #[(.slice A0_0 l0_0.length c0_0)] 27 (0,0)))∧Aside0 (Below w.heap.size w w'))
 case atStart=>exact ⟨(([]:List Int)),(0),D1,H',⟨Nat.le_refl _⟩,⟨D10⟩,⟨yB BK134⟩,⟨yW HB⟩⟩
 case round =>
  clear H'
  try clear c1
  try clear p2
  try clear hcz4_0
  try clear hfz4_0
  obtain ⟨x5_1,x11_1,rfl,HA,HK1,HO_5,BK134,HB⟩:=hrel
  cases gk with
  | zero=>exact absurd HA.out (by simp [spec_l2Apply.l0])
  | succ k1 =>
   have H:=HA.out
   clear HA
   simp only [spec_l2Apply.l0] at H
   by_cases c5:x11_1 < (l0_0.length:Int)
   ·rw [if_pos c5] at H
    have c5b0:=decide_eq_true c5
    clear c5
    obtain ⟨c6,H⟩:=yi H
    have c6b0:=decide_eq_true c6
    clear c6
    obtain ⟨c7,H⟩:=yi H
    have c7b0:=decide_eq_true c7
    clear c7
    obtain ⟨t136,A8,H⟩:=yo H
    obtain ⟨c9,H⟩:=yi H
    have LMc9:=am c9
    clear c9
    generalize hy137:(x5_1 ++ [t136]:List Int)=y137 at H
    have Ny137:=am hy137.symm
    clear hy137
    have H':=am H
    clear H
    have p135:0≤(x11_1:Int):=od D0
    have q135:x11_1 < (l0_0.length:Int):=od D0
    obtain ⟨ad135,A135_0,c135_0,e135,hx135_0,hl135_0,hi135_0⟩:=at_L1 HR0_0.out x11_1 p135 q135
    cases e135
    replace hx135_0:=(HB.out.cell (World.block_lt_of_cell? w _ hx135_0)).trans hx135_0
    have HR135_0:=am hi135_0
    have HC135_0:=am hl135_0
    clear hi135_0 hl135_0
    replace p135:=eq_true p135
    replace q135:=eq_true q135
    go_wp2_with (first|((with_reducible refine gC 150 ?_);refine gM (some 18) Try.func150 (args:=#[.slice A135_0 (rd_L1 l0_0 x11_1).length c135_0, .slice A1 l1.length c1]) (spec_l1Dot.calls k1 _ _ (rd_L1 l0_0 x11_1) _ _ l1 t136 _ (yc (Kd.C_below HR135_0.out HB.out)) HC135_0.out (yc (Kd.C_below HR1.out HB.out)) HC1.out A8.out) ?_;rintro e w' ⟨rfl,⟨nd,rfl⟩⟩;refine ⟨_,rfl,?_⟩)|((with_reducible refine gate_builtin (b:=.append) (xs:=#[.tmp 15, .tmp 19]) rfl ?_);at_builtin;refine Kd.R_append (Kd.int .u8) (w0:=w) w.heap.size rfl (.tmp 15) (.tmp 19) 24 5 (.int .u8 0) 1 rfl Try.underlying24 info5 rfl D5 D13 u5 x5_1 t136 [.int .u8 t136] (fun _=>True) (fun _=>False) rfl rfl D98 (fun _ hk=>hk.elim) D43 (by exact (yR HO_5)) D64 D47 (by have:=LMc9.out;omega) ?_;intro v138 w10 ho hb hg hat;rw [← Ny137.out] at ho;have n0_:=am (blk_grown (g:=gb134) (o:=.cells #[.slice (some ad135) l0_0.length c0_0] 27 (0,0)) (yB BK134) hg (Kd.R_ne HO_5.out BK134.out D5));have n1_:=am (hb);have n2_:=am (ho);clear BK134 HB HO_5;have BK134:=n0_;have HB:=n1_;have HO139:=n2_;clear n0_ n1_ n2_ ho hb hg hat))
    go_roundg k1
    case measure=>have:=HK1.out;omega
    case rel=>exact ⟨(y137),(wrap64 (x11_1+1)),D1,H',⟨D38⟩,⟨yR HO139⟩,⟨yB BK134⟩,⟨yW HB⟩⟩
   rw [if_neg c5] at H
   have c5b0:=decide_eq_false c5
   clear c5
   obtain rfl:=Option.some.inj H
   go_wp2
   go_ret
   exact ⟨_,D3,yR HO_5,yW HB⟩

def spec_l1Scale.l0:Nat→Int→List Int→List Int→Int→Int→Option (List Int)
 | 0,_,_,_,_,_=>none
 | k+1,x0,x5,x8,x9,x10=>if x10 < x9 then (if 0≤x10 then (if x10 < (x8.length:Int) then ((spec_l1Times.f k x0 (rd x8 x10)).bind fun t141=>(if x5.length < 140737488355328 then (spec_l1Scale.l0 k x0 (x5 ++ [t141]) x8 x9 (wrap64 (x10+1))) else (none))) else (none)) else (none)) else (some x5)
def spec_l1Scale.f (k:Nat) (a0:Int) (l1:List Int):Option (List Int):=spec_l1Scale.l0 k a0 ([]:List Int) l1 (l1.length:Int) 0
theorem spec_l1Scale.mono_l:∀ k,(∀ y0 y1 y2 y3 y4,LeO (spec_l1Scale.l0 k y0 y1 y2 y3 y4) (spec_l1Scale.l0 (k+1) y0 y1 y2 y3 y4))
 | 0=>fun _ _ _ _ _ r h=>by simp [spec_l1Scale.l0] at h
 | k+1=>by
  have ih0:=spec_l1Scale.mono_l k
  intro y0 y1 y2 y3 y4
  unfold spec_l1Scale.l0
  exact mm
theorem spec_l1Scale.mono:∀ a0 a1 k,LeO (spec_l1Scale.f k a0 a1) (spec_l1Scale.f (k+1) a0 a1):=by
 intro a0 a1 k
 have ih0:=spec_l1Scale.mono_l k
 unfold spec_l1Scale.f
 exact mm
theorem spec_l1Scale.calls (k:Nat) (a0:Int) (A1:Option Addr) (c1:Nat) (l1:List Int) (r:List Int) (w:World) (hr1:Kd.C (Kd.int .u8) w A1 l1.length l1) (hc1:l1.length≤c1) (h:spec_l1Scale.f k a0 l1=some r) :
  Calls Try.prog 122 #[.int .u8 a0, .slice A1 l1.length c1] w fun e w'=>∃ v0_:Value,e = .returned (v0_)∧Kd.R (Kd.int .u8) 5 w' w.heap.size (fun _=>True) v0_ r∧Below w.heap.size w w':=by
 have HR1:=am hr1
 have HC1:=am hc1
 clear hr1 hc1
 have HB:=am (Below.refl w.heap.size w)
 have H:=h
 unfold spec_l1Scale.f at H
 clear h
 have H':=am H
 clear H
 go_enter Try.func122,Try.ntmps122
 go_wp2
 go_loopg [5,10] k (fun kq v5 v10 w'=>∃ (x5_1:List Int) (x10_1:Int),v10 = .int .i64 x10_1∧Aside0 (spec_l1Scale.l0 kq a0 x5_1 l1 (l1.length:Int) x10_1=some r)∧Aside0 (kq≤k)∧Aside0 (Kd.R (Kd.int .u8) 5 w' w.heap.size (fun _=>True) v5 x5_1)∧Aside0 (Below w.heap.size w w'))
 case atStart=>exact ⟨(([]:List Int)),(0),D1,H',⟨Nat.le_refl _⟩,⟨D10⟩,⟨yW HB⟩⟩
 case round =>
  clear H'
  try clear c1
  try clear p2
  obtain ⟨x5_1,x10_1,rfl,HA,HK1,HO_5,HB⟩:=hrel
  cases gk with
  | zero=>exact absurd HA.out (by simp [spec_l1Scale.l0])
  | succ k1 =>
   have H:=HA.out
   clear HA
   simp only [spec_l1Scale.l0] at H
   by_cases c3:x10_1 < (l1.length:Int)
   ·rw [if_pos c3] at H
    have c3b0:=decide_eq_true c3
    clear c3
    obtain ⟨c4,H⟩:=yi H
    have c4b0:=decide_eq_true c4
    clear c4
    obtain ⟨c5,H⟩:=yi H
    have c5b0:=decide_eq_true c5
    clear c5
    obtain ⟨t141,A6,H⟩:=yo H
    obtain ⟨c7,H⟩:=yi H
    have LMc7:=am c7
    clear c7
    generalize hy142:(x5_1 ++ [t141]:List Int)=y142 at H
    have Ny142:=am hy142.symm
    clear hy142
    have H':=am H
    clear H
    have p140:0≤(x10_1:Int):=od D0
    have q140:x10_1 < (l1.length:Int):=od D0
    obtain ⟨ad140,e140,hx140_0⟩:=Kd.at_int HR1.out x10_1 p140 q140
    cases e140
    replace hx140_0:=(HB.out.cell (World.block_lt_of_cell? w _ hx140_0)).trans hx140_0
    replace p140:=eq_true p140
    replace q140:=eq_true q140
    go_wp2_with (first|((with_reducible refine gC 152 ?_);refine gM (some 17) Try.func152 (args:=#[.int .u8 a0, .int .u8 (rd l1 x10_1)]) (spec_l1Times.calls k1 a0 (rd l1 x10_1) t141 _ A6.out) ?_;rintro e w' ⟨rfl,⟨nd,rfl⟩⟩;refine ⟨_,rfl,?_⟩)|((with_reducible refine gate_builtin (b:=.append) (xs:=#[.tmp 14, .tmp 18]) rfl ?_);at_builtin;refine Kd.R_append (Kd.int .u8) (w0:=w) w.heap.size rfl (.tmp 14) (.tmp 18) 24 5 (.int .u8 0) 1 rfl Try.underlying24 info5 rfl D5 D13 u5 x5_1 t141 [.int .u8 t141] (fun _=>True) (fun _=>False) rfl rfl D98 (fun _ hk=>hk.elim) D43 (by exact (yR HO_5)) D64 D47 (by have:=LMc7.out;omega) ?_;intro v143 w8 ho hb hg hat;rw [← Ny142.out] at ho;have n0_:=am (hb);have n1_:=am (ho);clear HB HO_5;have HB:=n0_;have HO144:=n1_;clear n0_ n1_ ho hb hg hat))
    go_roundg k1
    case measure=>have:=HK1.out;omega
    case rel=>exact ⟨(y142),(wrap64 (x10_1+1)),D1,H',⟨D38⟩,⟨yR HO144⟩,⟨yW HB⟩⟩
   rw [if_neg c3] at H
   have c3b0:=decide_eq_false c3
   clear c3
   obtain rfl:=Option.some.inj H
   go_wp2
   go_ret
   exact ⟨_,D3,yR HO_5,yW HB⟩

def spec_l1Power.l0:Nat→Int→Int→Int→Option (Int)
 | 0,_,_,_=>none
 | k+1,x0,x1,x5=>if x1 > 0 then ((spec_l1Times.f k x5 x0).bind fun t145=>(spec_l1Power.l0 k x0 (wrap64 (x1 - 1)) t145)) else (some x5)
def spec_l1Power.f (k:Nat) (a0:Int) (a1:Int):Option (Int):=spec_l1Power.l0 k a0 a1 1
theorem spec_l1Power.mono_l:∀ k,(∀ y0 y1 y2,LeO (spec_l1Power.l0 k y0 y1 y2) (spec_l1Power.l0 (k+1) y0 y1 y2))
 | 0=>fun _ _ _ r h=>by simp [spec_l1Power.l0] at h
 | k+1=>by
  have ih0:=spec_l1Power.mono_l k
  intro y0 y1 y2
  unfold spec_l1Power.l0
  exact mm
theorem spec_l1Power.mono:∀ a0 a1 k,LeO (spec_l1Power.f k a0 a1) (spec_l1Power.f (k+1) a0 a1):=by
 intro a0 a1 k
 have ih0:=spec_l1Power.mono_l k
 unfold spec_l1Power.f
 exact mm
theorem spec_l1Power.calls (k:Nat) (a0:Int) (a1:Int) (r:Int) (w:World) (h:spec_l1Power.f k a0 a1=some r) :
  Calls Try.prog 138 #[.int .u8 a0, .int .i64 a1] w fun e w'=>e = .returned (.int .u8 r)∧Drawn0 w w':=by
 have H:=h
 unfold spec_l1Power.f at H
 clear h
 have H':=am H
 clear H
 go_enter Try.func138,Try.ntmps138
 go_wp2
 go_loopg [1,5] k (fun kq v1 v5 w'=>∃ (x1_1:Int) (x5_1:Int),v1 = .int .i64 x1_1∧v5 = .int .u8 x5_1∧Aside0 (spec_l1Power.l0 kq a0 x1_1 x5_1=some r)∧Aside0 (kq≤k)∧Drawn0 w w')
 case atStart=>exact ⟨(a1),(1),D1,D1,H',⟨Nat.le_refl _⟩,D15⟩
 case round =>
  clear H'
  try clear c1
  try clear p2
  obtain ⟨x1_1,x5_1,rfl,rfl,HA,HK1,⟨m1,rfl⟩⟩:=hrel
  cases gk with
  | zero=>exact absurd HA.out (by simp [spec_l1Power.l0])
  | succ k1 =>
   have H:=HA.out
   clear HA
   simp only [spec_l1Power.l0] at H
   by_cases c3:x1_1 > 0
   ·rw [if_pos c3] at H
    have c3b0:decide (0 < x1_1)=true:=decide_eq_true c3
    clear c3
    obtain ⟨t145,A4,H⟩:=yo H
    have H':=am H
    clear H
    go_wp2_with (first|((with_reducible refine gC 152 ?_);refine gM (some 12) Try.func152 (args:=#[.int .u8 x5_1, .int .u8 a0]) (spec_l1Times.calls k1 x5_1 a0 t145 _ A4.out) ?_;rintro e w' ⟨rfl,⟨nd,rfl⟩⟩;refine ⟨_,rfl,?_⟩))
    go_roundg k1
    case measure=>have:=HK1.out;omega
    case rel=>exact ⟨(wrap64 (x1_1 - 1)),(t145),D1,D1,H',⟨D38⟩,D15⟩
   rw [if_neg c3] at H
   have c3b0:decide (0 < x1_1)=false:=decide_eq_false c3
   clear c3
   obtain rfl:=Option.some.inj H
   go_wp2
   go_ret
   exact ⟨D1,D15⟩

def spec_l5X.f (k:Nat) (a0:Int):Option (Int):=(spec_l1Power.f k 3 (wrap64 (a0+1))).bind fun t146=>(some t146)
theorem spec_l5X.mono:∀ a0 k,LeO (spec_l5X.f k a0) (spec_l5X.f (k+1) a0):=by
 intro a0 k
 unfold spec_l5X.f
 exact mm
theorem spec_l5X.calls (k:Nat) (a0:Int) (r:Int) (w:World) (h:spec_l5X.f k a0=some r) :
  Calls Try.prog 153 #[.int .i64 a0] w fun e w'=>e = .returned (.int .u8 r)∧Drawn0 w w':=by
 have H:=h
 unfold spec_l5X.f at H
 clear h
 obtain ⟨t146,A2,H⟩:=yo H
 obtain rfl:=Option.some.inj H
 go_enter Try.func153,Try.ntmps153
 go_wp2_with (first|((with_reducible refine gC 138 ?_);refine gM (some 5) Try.func138 (args:=#[.int .u8 3, .int .i64 (wrap64 (a0+1))]) (spec_l1Power.calls k 3 (wrap64 (a0+1)) t146 _ A2.out) ?_;rintro e w' ⟨rfl,⟨nd,rfl⟩⟩;refine ⟨_,rfl,?_⟩))
 go_ret
 exact ⟨D1,D15⟩

def spec_l5F.f (k:Nat) (a0_0:Int) (a0_1:Int) (a1:Int):Option (Int):=(spec_l5X.f k a1).bind fun t122=>((spec_l1Power.f k t122 (wrap64 (a0_1 - 1))).bind fun t123=>(some t123))
theorem spec_l5F.mono:∀ a0 a1 a2 k,LeO (spec_l5F.f k a0 a1 a2) (spec_l5F.f (k+1) a0 a1 a2):=by
 intro a0 a1 a2 k
 unfold spec_l5F.f
 exact LeO.bind (spec_l5X.mono _ _) (fun _=>LeO.bind (spec_l1Power.mono _ _ _) (fun _=>LeO.refl _))
set_option maxHeartbeats 4000000 in
theorem spec_l5F.calls (k:Nat) (a0_0:Int) (a0_1:Int) (a1:Int) (r:Int) (w:World) (h:spec_l5F.f k a0_0 a0_1 a1=some r) :
  Calls Try.prog 123 #[.agg #[.int .i64 a0_0, .int .i64 a0_1], .int .i64 a1] w fun e w'=>e = .returned (.int .u8 r)∧Below w.heap.size w w':=by
 unfold spec_l5F.f at h
 obtain ⟨x,hx,h⟩:=Option.bind_eq_some_iff.mp h
 obtain ⟨y,hy,h⟩:=Option.bind_eq_some_iff.mp h
 obtain rfl:=Option.some.inj h
 have HX:=am hx
 have HY:=am hy
 clear hx hy h
 go_enter Try.func123,Try.ntmps123
 go_wp2_with fail
 obtain ⟨W,hW⟩:∃ W:World,W=w.alloc (.cells #[.int .i64 a0_0, .int .i64 a0_1] 30 (0,0)):=⟨_,rfl⟩
 have hb:Below w.heap.size w W:=by rw [hW];exact pa (Below.refl _ _) _
 have hc1:W.cell? ⟨w.heap.size,1,none⟩=some (.int .i64 a0_1):=by rw [hW];go_simp
 rw [← hW]
 have HB:=am hb
 clear hb hW
 go_quiet (first|(go_at_call 153;(with_reducible refine (spec_l5X.calls k a1 x _ HX.out).mono ?_);rintro e w' ⟨rfl,⟨nd,rfl⟩⟩;exact ⟨rfl,_,World.drewN_drewN _ _ _⟩)|(go_at_call 138;(with_reducible refine (spec_l1Power.calls k x (wrap64 (a0_1 - 1)) y _ HY.out).mono ?_);rintro e w' ⟨rfl,⟨nd,rfl⟩⟩;exact ⟨rfl,_,World.drewN_drewN _ _ _⟩))
 go_wp2
 go_ret
 exact ⟨rfl,pb HB.out _⟩

def spec_l5Short.l0:Nat→Int→List Int→Int→Int→Int→Option (List Int)
 | 0,_,_,_,_,_=>none
 | k+1,x1,x5,x6,x148000,x148001=>if x6 < (wrap64 (x148001 - 1)) then ((spec_l5X.f k x1).bind fun t148=>((spec_l1Power.f k t148 x6).bind fun t149=>(if x5.length < 140737488355328 then (spec_l5Short.l0 k x1 (x5 ++ [t149]) (wrap64 (x6+1)) x148000 x148001) else (none)))) else (some x5)
def spec_l5Short.f (k:Nat) (a0_0:Int) (a0_1:Int) (a1:Int):Option (List Int):=spec_l5Short.l0 k a1 ([]:List Int) 0 a0_0 a0_1
theorem spec_l5Short.mono_l:∀ k,(∀ y0 y1 y2 y3 y4,LeO (spec_l5Short.l0 k y0 y1 y2 y3 y4) (spec_l5Short.l0 (k+1) y0 y1 y2 y3 y4))
 | 0=>fun _ _ _ _ _ r h=>by simp [spec_l5Short.l0] at h
 | k+1=>by
  have ih0:=spec_l5Short.mono_l k
  intro y0 y1 y2 y3 y4
  unfold spec_l5Short.l0
  exact mm
theorem spec_l5Short.mono:∀ a0 a1 a2 k,LeO (spec_l5Short.f k a0 a1 a2) (spec_l5Short.f (k+1) a0 a1 a2):=by
 intro a0 a1 a2 k
 have ih0:=spec_l5Short.mono_l k
 unfold spec_l5Short.f
 exact mm
theorem spec_l5Short.calls (k:Nat) (a0_0:Int) (a0_1:Int) (a1:Int) (r:List Int) (w:World) (h:spec_l5Short.f k a0_0 a0_1 a1=some r) :
  Calls Try.prog 151 #[.agg #[.int .i64 a0_0, .int .i64 a0_1], .int .i64 a1] w fun e w'=>∃ v0_:Value,e = .returned (v0_)∧Kd.R (Kd.int .u8) 5 w' w.heap.size (fun _=>True) v0_ r∧Below w.heap.size w w':=by
 have hu30:=Try.underlying30
 have HB:=am (Below.refl w.heap.size w)
 have H:=h
 unfold spec_l5Short.f at H
 clear h
 have H':=am H
 clear H
 go_enter Try.func151,Try.ntmps151
 go_wp2_with (first|((with_reducible refine gD 2 ?_);refine gB (cs:=#[.int .i64 a0_0, .int .i64 a0_1]) 30 ?_;intro gb147 hg w3 hbox hb;have BK147:=am (hbox);have GW147:=ye HB hg;replace HB:=yH HB hb;have GE147:=GW147;clear hb hbox hg))
 go_loopg [5,6] k (fun kq v5 v6 w'=>∃ (x5_1:List Int) (x6_1:Int),v6 = .int .i64 x6_1∧Aside0 (spec_l5Short.l0 kq a1 x5_1 x6_1 a0_0 a0_1=some r)∧Aside0 (kq≤k)∧Aside0 (Kd.R (Kd.int .u8) 5 w' w.heap.size (fun _=>True) v5 x5_1)∧Aside0 (w'.heap[gb147]? = some (.cells #[.int .i64 a0_0, .int .i64 a0_1] 30 (0,0)))∧Aside0 (Below w.heap.size w w'))
 case atStart=>exact ⟨(([]:List Int)),(0),D1,H',⟨Nat.le_refl _⟩,⟨D10⟩,⟨yB BK147⟩,⟨yW HB⟩⟩
 case round =>
  clear H'
  try clear c1
  try clear p2
  obtain ⟨x5_1,x6_1,rfl,HA,HK1,HO_5,BK147,HB⟩:=hrel
  cases gk with
  | zero=>exact absurd HA.out (by simp [spec_l5Short.l0])
  | succ k1 =>
   have H:=HA.out
   clear HA
   simp only [spec_l5Short.l0] at H
   by_cases c4:x6_1 < (wrap64 (a0_1 - 1))
   ·rw [if_pos c4] at H
    have c4b0:=decide_eq_true c4
    clear c4
    obtain ⟨t148,A5,H⟩:=yo H
    obtain ⟨t149,A6,H⟩:=yo H
    obtain ⟨c7,H⟩:=yi H
    have LMc7:=am c7
    clear c7
    generalize hy150:(x5_1 ++ [t149]:List Int)=y150 at H
    have Ny150:=am hy150.symm
    clear hy150
    have H':=am H
    clear H
    obtain ⟨hcz8_0,hcz8_1,hfz8_0,hfz8_1⟩:=yk2 BK147
    go_wp2_with (first|((with_reducible refine gC 153 ?_);refine gM (some 16) Try.func153 (args:=#[.int .i64 a1]) (spec_l5X.calls k1 a1 t148 _ A5.out) ?_;rintro e w' ⟨rfl,⟨nd,rfl⟩⟩;refine ⟨_,rfl,?_⟩)|((with_reducible refine gC 138 ?_);refine gM (some 18) Try.func138 (args:=#[.int .u8 t148, .int .i64 x6_1]) (spec_l1Power.calls k1 t148 x6_1 t149 _ A6.out) ?_;rintro e w' ⟨rfl,⟨nd,rfl⟩⟩;refine ⟨_,rfl,?_⟩)|((with_reducible refine gate_builtin (b:=.append) (xs:=#[.tmp 14, .tmp 19]) rfl ?_);at_builtin;refine Kd.R_append (Kd.int .u8) (w0:=w) w.heap.size rfl (.tmp 14) (.tmp 19) 24 5 (.int .u8 0) 1 rfl Try.underlying24 info5 rfl D5 D13 u5 x5_1 t149 [.int .u8 t149] (fun _=>True) (fun _=>False) rfl rfl D98 (fun _ hk=>hk.elim) D43 (by exact (yR HO_5)) D64 D47 (by have:=LMc7.out;omega) ?_;intro v151 w9 ho hb hg hat;rw [← Ny150.out] at ho;have n0_:=am (blk_grown (g:=gb147) (o:=.cells #[.int .i64 a0_0, .int .i64 a0_1] 30 (0,0)) (yB BK147) hg (Kd.R_ne HO_5.out BK147.out D5));have n1_:=am (hb);have n2_:=am (ho);clear BK147 HB HO_5;have BK147:=n0_;have HB:=n1_;have HO152:=n2_;clear n0_ n1_ n2_ ho hb hg hat))
    go_roundg k1
    case measure=>have:=HK1.out;omega
    case rel=>exact ⟨(y150),(wrap64 (x6_1+1)),D1,H',⟨D38⟩,⟨yR HO152⟩,⟨yB BK147⟩,⟨yW HB⟩⟩
   rw [if_neg c4] at H
   have c4b0:=decide_eq_false c4
   clear c4
   obtain rfl:=Option.some.inj H
   obtain ⟨hcz10_0,hcz10_1,hfz10_0,hfz10_1⟩:=yk2 BK147
   go_wp2
   go_ret
   exact ⟨_,D3,yR HO_5,yW HB⟩
end Go.Proofs.Yteflgifmdojahaa.PFnRegenerated
-- SQUEEZED
