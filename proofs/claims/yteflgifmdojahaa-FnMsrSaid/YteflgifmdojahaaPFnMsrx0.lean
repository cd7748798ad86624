import Derived.Test.YteflgifmdojahaaVFnMsrB
import Derived.Test.YteflgifmdojahaaProg
import Derived.Below
import Derived.Deep.Draws
import Derived.Deep.AppendLies
import Derived.Maps.AppendAt
import Derived.OwnWalk
import Derived.Laws.BytesArg
import Derived.Laws.MakeOwn
import Derived.Laws.OwnMore
import Derived.Deep.OwnRows
import Derived.Tactics
import Derived.Lib.ConvBytes
import Derived.Laws.Slices
import Derived.WalkKit
import Derived.KernelRfl
import Derived.RowKit3
import Derived.Deep.LoopGhost
import Derived.Deep.QuietTactic
import Derived.BigQuiet
import Derived.WideLaws
import Derived.Deep.DeepCutAuto
import Derived.Deep.CutBlock
import Derived.Deep.RegionHeld3
import Derived.Laws.Rows
import Derived.Lib.AppendStr
import Derived.ArgAppend
import Derived.Laws.IdiomCopy
import Derived.OrdersHeld
import Derived.Laws.BitsLemmas
import Derived.Shelf.Abstract
import Derived.RowKit
import Derived.Lib.Hide
import Derived.Outline
import Derived.Test.YteflgifmdojahaaVFnMsrA
namespace Go.Proofs.Yteflgifmdojahaa.PFnMsr
open Go.RowKit Go.Proofs.YteflgifmdojahaaW.PrintWords Go.Proofs.YteflgifmdojahaaW.PrintLast Go.Proofs.YteflgifmdojahaaW.PrintMore Go.Proofs.Yteflgifmdojahaa.KitS
attribute [local go_sem] max2_int min2_int max_two min_two max_three min_three max_four min_four
set_option linter.unusedVariables false
set_option linter.unusedSimpArgs false
def errW : Option Int→Value
  | none=>.nilIface
  | some c=>.iface 0 (.int .i64 c)
theorem errW_none : errW none = .nilIface:=rfl
theorem errW_some (c : Int) : errW (some c) = .iface 0 (.int .i64 c):=rfl

theorem info3 : (Try.prog.info? 3).map (fun i=>(i.zero,i.size,i.bytes))=some (some (.int .i64 0),1,8):=by kernel_rfl
theorem info5 : (Try.prog.info? 5).map (fun i=>(i.zero,i.size,i.bytes))=some (some (.int .u8 0),1,1):=by kernel_rfl
theorem info24 : (Try.prog.info? 24).map (fun i=>(i.zero,i.size,i.bytes))=some (some (.slice none 0 0),1,24):=by kernel_rfl
theorem info76 : (Try.prog.info? 76).map (fun i=>(i.zero,i.size,i.bytes))=some (some (.agg #[(.int .i64 0),(.slice none 0 0)]),2,32):=by kernel_rfl
def rd_L1 (xs : List (List Int)) (i : Int) : (List Int):=xs.getD i.toNat ([] : List Int)
theorem at_L1 {w : World} {A : Option Addr} {n : Nat} {xs : List (List Int)} (h : Kd.C (Kd.slice 3 (Kd.int .i64)) w A n xs) (i : Int) (h0 : 0≤i) (h1 : i < n) : ∃ ad A0 c0,A=some ad∧w.cell? (ad.add i.toNat)=some (.slice A0 (rd_L1 xs i).length c0)∧(rd_L1 xs i).length≤c0∧(Kd.int .i64).C w A0 (rd_L1 xs i).length (rd_L1 xs i):=by
  obtain ⟨ad,c,e,_,hK,hc0⟩:=Kd.C_get h ([] : List Int) i h0 h1
  have hc : ∀ j u,c[j]? = some u→w.cell? (ad.add (i.toNat*1+j))=some u:=hc0
  obtain ⟨A0,c0,rfl,l0,g0⟩:=hK
  exact ⟨ad,A0,c0,e,by have hq:=hc 0 _ rfl;rwa [Nat.mul_one,Nat.add_zero] at hq,l0,g0⟩

def rd_L3 (xs : List (List Int)) (i : Int) : (List Int):=xs.getD i.toNat ([] : List Int)
theorem at_L3 {w : World} {A : Option Addr} {n : Nat} {xs : List (List Int)} (h : Kd.C (Kd.slice 5 (Kd.int .u8)) w A n xs) (i : Int) (h0 : 0≤i) (h1 : i < n) : ∃ ad A0 c0,A=some ad∧w.cell? (ad.add i.toNat)=some (.slice A0 (rd_L3 xs i).length c0)∧(rd_L3 xs i).length≤c0∧(Kd.int .u8).C w A0 (rd_L3 xs i).length (rd_L3 xs i):=by
  obtain ⟨ad,c,e,_,hK,hc0⟩:=Kd.C_get h ([] : List Int) i h0 h1
  have hc : ∀ j u,c[j]? = some u→w.cell? (ad.add (i.toNat*1+j))=some u:=hc0
  obtain ⟨A0,c0,rfl,l0,g0⟩:=hK
  exact ⟨ad,A0,c0,e,by have hq:=hc 0 _ rfl;rwa [Nat.mul_one,Nat.add_zero] at hq,l0,g0⟩

/-! #### struct type 76 -/
structure S76 where
  f0 : Int
  f1 : (List Int)
def z76 : S76:=⟨(0 : Int),([] : List Int)⟩
def k76 : Kd S76:=Kd.iso (Kd.pair (Kd.int .i64) (Kd.slice 5 (Kd.int .u8))) (fun x : S76=>(x.f0,x.f1))
theorem k76_open {w : World} {x : S76} {cs : List Value} (h : k76.K w x cs) : ∃ A1 c1,cs=[.int .i64 x.f0, .slice A1 x.f1.length c1]∧x.f1.length≤c1∧(Kd.int .u8).C w A1 x.f1.length x.f1:=by
  obtain ⟨_,_,rfl,rfl,⟨A1,c1,rfl,l1,g1⟩⟩:=h
  exact ⟨A1,c1,rfl,l1,g1⟩
theorem k76_mk (w : World) (x : S76) {A1 : Option Addr} {c1 : Nat} (l1 : x.f1.length≤c1) (g1 : (Kd.int .u8).C w A1 x.f1.length x.f1) : k76.K w x [.int .i64 x.f0, .slice A1 x.f1.length c1]:=⟨[.int .i64 x.f0],[.slice A1 x.f1.length c1],rfl,rfl,⟨A1,c1,rfl,l1,g1⟩⟩
theorem k76_mkM (w : World) (base : Nat) (ok : Nat→Prop) (x : S76) {v1 : Value} (g1 : (Kd.int .u8).R 5 w base ok v1 x.f1) : k76.M w base ok x [.int .i64 x.f0,v1]:=⟨[.int .i64 x.f0],[v1],rfl,rfl,⟨v1,rfl,g1⟩⟩
theorem k76_openF {W : World} {ok : Nat→Prop} {x : S76} {cs : List Value} (h : Kd.FK k76 W ok x cs) : ∃ A1 c1,cs=[.int .i64 x.f0, .slice A1 x.f1.length c1]∧x.f1.length≤c1∧Kd.F (Kd.int .u8) W ok A1 x.f1.length x.f1:=by
  obtain ⟨A1,c1,rfl,l1,_⟩:=k76_open (Kd.FK_now h)
  exact ⟨A1,c1,rfl,l1,(fun W' hW=>by obtain ⟨A1_,c1_,he,l1_,g1_⟩:=k76_open (h W' hW);injection (Option.some.inj (show some (Value.slice A1 x.f1.length c1)=some (Value.slice A1_ x.f1.length c1_) from congrArg (fun l=>l[1]?) he)) with ha_ _ _;rw [ha_];exact g1_)⟩
theorem k76_mkF (W : World) (ok : Nat→Prop) (x : S76) {A1 : Option Addr} {c1 : Nat} (l1 : x.f1.length≤c1) (g1 : Kd.F (Kd.int .u8) W ok A1 x.f1.length x.f1) : Kd.FK k76 W ok x [.int .i64 x.f0, .slice A1 x.f1.length c1]:=fun W2 hW=>k76_mk W2 x l1 (g1 W2 hW)
def rd_T76 (xs : List S76) (i : Int) : S76:=xs.getD i.toNat z76
theorem at_T76 {w : World} {A : Option Addr} {n : Nat} {xs : List S76} (h : Kd.C k76 w A n xs) (i : Int) (h0 : 0≤i) (h1 : i < n) : ∃ ad A1 c1,A=some ad∧w.cell? (ad.add (i.toNat*2))=some (.int .i64 (rd_T76 xs i).f0)∧w.cell? ⟨(ad.add (i.toNat*2)).block,(ad.add (i.toNat*2)).off+1,none⟩=some (.slice A1 (rd_T76 xs i).f1.length c1)∧(rd_T76 xs i).f1.length≤c1∧(Kd.int .u8).C w A1 (rd_T76 xs i).f1.length (rd_T76 xs i).f1:=by
  obtain ⟨ad,c,e,_,hK,hc0⟩:=Kd.C_get h z76 i h0 h1
  have hc : ∀ j u,c[j]? = some u→w.cell? (ad.add (i.toNat*2+j))=some u:=hc0
  obtain ⟨A1,c1,rfl,l1,g1⟩:=k76_open hK
  exact ⟨ad,A1,c1,e,hc 0 _ rfl,by rw [← add_field _ _ 1 (by omega)];exact hc 1 _ rfl,l1,g1⟩

/-- A function's value with more rounds: the steps of the proof. -/
theorem mm {p : Prop} (h : p:=by repeat' first | (with_reducible exact ih0 ..) | (with_reducible exact ih1 ..) | (with_reducible exact ih2 ..) | (with_reducible exact ih3 ..) | (with_reducible exact ih4 ..) | (with_reducible exact ih5 ..) | (with_reducible exact ih6 ..) | (with_reducible exact ih7 ..) | (with_reducible exact LeO.refl _) | (with_reducible exact LeO.none _) | (with_reducible refine LeO.ite ?_ ?_) | (with_reducible refine LeO.bind ?_ (fun _=>?_)) | (with_reducible exact impl_DecodeMsr.mono ..) | (with_reducible exact impl_EncodeMsr.mono ..) | (with_reducible exact impl_Inverse.mono ..) | (with_reducible exact impl_MessageOf.mono ..) | (with_reducible exact impl_MsrRow.mono ..) | (with_reducible exact impl_Msr_message.mono ..) | (with_reducible exact impl_Msr_places.mono ..) | (with_reducible exact impl_Msr_powers.mono ..) | (with_reducible exact impl_Msr_row.mono ..) | (with_reducible exact impl_Times.mono ..) | (with_reducible exact impl_added.mono ..) | (with_reducible exact impl_column.mono ..) | (with_reducible exact impl_dot.mono ..) | (with_reducible exact impl_identity.mono ..) | (with_reducible exact impl_power.mono ..) | (with_reducible exact impl_product.mono ..) | (with_reducible exact impl_scaled.mono ..) | (with_reducible exact impl_solve.mono ..) | (with_reducible exact impl_transposed.mono ..) | (with_reducible exact laws_FnMsr.mono ..) | (with_reducible exact laws_samePieces.mono ..) | (with_reducible exact laws_someOf.mono ..) | (with_reducible exact spec_DecodeMsr.mono ..) | (with_reducible exact spec_DrawDecodeMsr.mono ..) | (with_reducible exact spec_DrawEncodeMsr.mono ..) | (with_reducible exact spec_EncodeMsr.mono ..) | (with_reducible exact spec_l1Add.mono ..) | (with_reducible exact spec_l1Cur_chosen.mono ..) | (with_reducible exact spec_l1Cur_msrPieces.mono ..) | (with_reducible exact spec_l1Cur_vector.mono ..) | (with_reducible exact spec_l1Dot.mono ..) | (with_reducible exact spec_l1Inverse.mono ..) | (with_reducible exact spec_l1Power.mono ..) | (with_reducible exact spec_l1Scale.mono ..) | (with_reducible exact spec_l1Times.mono ..) | (with_reducible exact spec_l2Apply.mono ..) | (with_reducible exact spec_l2Blank.mono ..) | (with_reducible exact spec_l2Identity.mono ..) | (with_reducible exact spec_l2Own.mono ..) | (with_reducible exact spec_l2Transposed.mono ..) | (with_reducible exact spec_l5Encode.mono ..) | (with_reducible exact spec_l5F.mono ..) | (with_reducible exact spec_l5Message.mono ..) | (with_reducible exact spec_l5Row.mono ..) | (with_reducible exact spec_l5Short.mono ..) | (with_reducible exact spec_l5Unknowns.mono ..) | (with_reducible exact spec_l5X.mono ..) | exact ih0 .. | exact ih1 .. | exact ih2 .. | exact ih3 .. | exact ih4 .. | exact ih5 .. | exact ih6 .. | exact ih7 .. | exact LeO.none _ | refine LeO.ite ?_ ?_ | refine LeO.bind ?_ (fun _=>?_)) : p:=h
abbrev Y : Bool:=true
abbrev Z : Bool:=false
theorem q1 {α : Type _} (l : List α) (i : Nat) (a : α) : l.toArray.setIfInBounds i a=(l.set i a).toArray:=List.setIfInBounds_toArray ..
theorem q2 {α : Type _} {x : α} {xs : List α} {a : α} : (x :: xs).set 0 a=a :: xs:=rfl
theorem q3 {α : Type _} {x : α} {xs : List α} {i : Nat} {a : α} : (x :: xs).set (i+1) a=x :: xs.set i a:=rfl
theorem am {p : Prop} (h : p) : Aside0 p := Aside0.mk h
theorem pb {B : Nat} {w W : World} (h : Below B w W) (n : Nat) : Below B w (W.drewN n) := pw_below_drewN h n
theorem pd {base : Nat} {w W : World} (h : Below base w W) : Below base w W.drew := below_drew1 h
theorem pa {w W : World} (h : Below w.heap.size w W) (o : Obj) : Below w.heap.size w (W.alloc o) := below_alloc h o
theorem pt {w W : World} {g j : Nat} {v : Value} (h : Below w.heap.size w W) (hg : w.heap.size ≤ g) : Below w.heap.size w (W.setCell ⟨g, j, none⟩ v) := below_set h hg
theorem pz {w W : World} (h : Below w.heap.size w W) : w.heap.size ≤ W.heap.size := below_size h
theorem pu {w W w2 : World} (h : Below w.heap.size w W) (k : Below W.heap.size W w2) : Below w.heap.size w w2 := below_step h k
theorem qa {w : World} {g : Nat} {o : Obj} (h : w.heap[g]? = some o) (o' : Obj) : (w.alloc o').heap[g]? = some o := blk_alloc h o'
theorem qd {w : World} {g : Nat} {o : Obj} (h : w.heap[g]? = some o) : w.drew.heap[g]? = some o := blk_drew h
theorem qb {w w1 : World} {g : Nat} {o : Obj} (h : w.heap[g]? = some o) (hb : Below w.heap.size w w1) : w1.heap[g]? = some o := blk_below h hb
theorem hh {a b c : Sort _} {p : a → b → c → Prop} (x : a) (y : b) (z : c) (h : p x y z) : p x y z := h
theorem q4 {α β : Type _} {f : α → β} {l : List α} : l.toArray.map f = (l.map f).toArray := List.map_toArray ..
theorem q5 {α β : Type _} {f : α → β} {a : α} {l : List α} : (a :: l).map f = f a :: l.map f := rfl
theorem q6 {α β : Type _} {f : α → β} : ([] : List α).map f = [] := rfl
theorem q7 {α : Type _} {i : Nat} {l : List α} : (l.drop i).length = l.length - i := List.length_drop ..
theorem q8 {α : Type _} {i : Nat} {l : List α} : (l.take i).length = min i l.length := List.length_take ..
theorem od {p : Prop} [Decidable p] (e : decide p = true) : p := of_decide_eq_true e
section
variable {P : Program} {md : Region.Mode} {ops : Array Oper} {Q : Exit → Act → World → Prop} {S : World → Prop} {ds : List Nat} {T : Bool × List (List Nat × List Nat)} {B : List Nat}
/-- What has come up, the last first. -/
def lst (n : Nat) : List Nat → Array Bool
  | [] => Array.replicate n false
  | i :: s => (lst n s).setIfInBounds i true
def lsl (n : Nat) : List Nat → List Bool
  | [] => List.replicate n false
  | i :: s => (lsl n s).set i true
theorem lst_l (n : Nat) : ∀ s, (lst n s).toList = lsl n s
  | [] => by simp [lst, lsl]
  | i :: s => by simp [lst, lsl, lst_l n s]
/-- What comes next, in this order. -/
def Todo (r : List (Nat × Nat)) (p : Prop) : Prop := p
theorem rS {id n : Nat} {a : Act} {w : World} (r : List (Nat × Nat)) (hn : ops.size = n) (hm : P.follows .mixedOrders = true) (hT : rtab .any ops = T) (hB : waitsOk T.2 B = true) (hS : S w.drew)
    (h : S w.drew → Aside0 (rtab .any ops = T) → Aside0 (waitsOk T.2 B = true) → Todo r (wpAnyLast P .any ops Q S ds n (lst n []) a w.drew)) : (Code.region id ops true).wp P Q a w :=
  start_ (Array.replicate n false) hm hn rfl hS fun h1 => h h1 ⟨hT⟩ ⟨hB⟩
theorem waits0 (T : List (List Nat × List Nat)) : waitsOk T [] = true := by
  unfold waitsOk
  rw [List.all_eq_true]
  intro d hd
  have hl : d < T.length := by simpa using hd
  rw [List.getElem?_eq_getElem hl]
  simp
/-- A small region none of whose operations stores: the table is the operations' own. -/
theorem rS0 {id n : Nat} {a : Act} {w : World} (r : List (Nat × Nat)) (hn : ops.size = n) (hm : P.follows .mixedOrders = true) (hS : S w.drew)
    (h : S w.drew → Aside0 (rtab .any ops = rtab .any ops) → Aside0 (waitsOk (rtab .any ops).2 [] = true) → Todo r (wpAnyLast P .any ops Q S ds n (lst n []) a w.drew)) : (Code.region id ops true).wp P Q a w :=
  rS r hn hm rfl (waits0 _) hS h
theorem rP {i u : Nat} {oi : Oper} {v : Value} {fuel n : Nat} {s : List Nat} {r : List (Nat × Nat)} {a : Act} {w : World} (hT : Aside0 (rtab md ops = T)) (hi : ops[i]? = some oi) (hN : oi.dst = some u) (hc : anyT T (lsl n s) ((lsl n s).set i true) i = true)
    (hQ : ∀ c a w, Q (.panic c) (a.put oi.dst v) w → Q (.panic c) a w) (hy : Yields P ops oi v a) {a' : Act} (ha : a.put (some u) v = a') (h : Todo r (wpAnyLast P md ops Q S ds fuel (lst n (i :: s)) a' w)) :
    Todo ((i, u) :: r) (wpAnyLast P md ops Q S ds (fuel + 1) (lst n s) a w) :=
  pure_ (lst n (i :: s)) hi hN (any_of hT.out (by rw [lst_l, lst_l]; exact hc)) hQ hy ha h
theorem rT {i u : Nat} {oi : Oper} {v : Value} {fuel n : Nat} {s : List Nat} {r : List (Nat × Nat)} {a : Act} {w : World} (hT : Aside0 (rtab md ops = T)) (hB : Aside0 (waitsOk T.2 B = true)) (hS : S w) (hi : ops[i]? = some oi) (hN : oi.dst = some u) (hc : takeW T B ds (lsl n s) ((lsl n s).set i true) i = true)
    (hQ : ∀ c a w, Q (.panic c) (a.put oi.dst v) w → Q (.panic c) a w) (hy : YieldsIf P ops S oi v a) {a' : Act} (ha : a.put (some u) v = a') (h : Todo r (wpAnyLast P md ops Q S ds fuel (lst n (i :: s)) a' w)) :
    Todo ((i, u) :: r) (wpAnyLast P md ops Q S ds (fuel + 1) (lst n s) a w) :=
  take_ (lst n (i :: s)) hi hN (take_ofW hT.out hB.out (by rw [lst_l, lst_l]; exact hc)) hQ hy hS ha h
theorem rO {i u : Nat} {N : Option Tmp} {oi : Oper} {fuel n : Nat} {s : List Nat} {r : List (Nat × Nat)} {a : Act} {w : World} (hT : Aside0 (rtab md ops = T)) (hi : ops[i]? = some oi) (hN : oi.dst = N) (hc : (readyT T.2 (lsl n s) == [i]) = true) (hd : i ∉ ds)
    (h : ∀ K : Act → World → Prop, Shut (∀ a' w', S w' → (S w' → Todo r (wpAnyLast P md ops Q S ds fuel (lst n (i :: s)) a' w')) → K a' w') → if Region.wanted oi (yielded ops a.tmps) = true then Oper.wp P oi a w K Q else K (a.put N undef) w) :
    Todo ((i, u) :: r) (wpAnyLast P md ops Q S ds (fuel + 1) (lst n s) a w) :=
  one_ (lst n (i :: s)) hi hN (one_of hT.out (by rw [lst_l, lst_l, hc]; show (true && ((lsl n s).set i true == (lsl n s).set i true)) = true; simp)) hd h
theorem rL {i u : Nat} {N : Option Tmp} {oi : Oper} {fuel n : Nat} {s : List Nat} {r : List (Nat × Nat)} {a : Act} {w : World} (hT : Aside0 (rtab md ops = T)) (hi : ops[i]? = some oi) (hN : oi.dst = N) (hc : (readyT T.2 (lsl n s) == [i]) = true) (hd : i ∈ ds)
    (h : ∀ K : Act → World → Prop, Shut (∀ a' w', Todo r (wpAnyLast P md ops Q S ds fuel (lst n (i :: s)) a' w') → K a' w') → if Region.wanted oi (yielded ops a.tmps) = true then Oper.wp P oi a w K Q else K (a.put N undef) w) :
    Todo ((i, u) :: r) (wpAnyLast P md ops Q S ds (fuel + 1) (lst n s) a w) :=
  last_ (lst n (i :: s)) hi hN (one_of hT.out (by rw [lst_l, lst_l, hc]; show (true && ((lsl n s).set i true == (lsl n s).set i true)) = true; simp)) hd h
theorem rD {s : List Nat} {a : Act} {w : World} {k n : Nat} (hT : Aside0 (rtab md ops = T)) (hc : (readyT T.2 (lsl n s) == []) = true) (h : Q .normal a w) : Todo [] (wpAnyLast P md ops Q S ds k (lst n s) a w) :=
  done_ (done_of hT.out (by rw [lst_l]; exact hc)) h
theorem nA (N:Nat) {a a':Act} {v:Value} (h:Act.put a (some N) v=a':=by simp only [Act.put,q1,q2,q3,i64_w,i32_w];rfl):Act.put a (some N) v=a':=h
theorem nP {p:Prop} (h:p:=by intro w';go_simp;with_reducible rfl):p:=h
theorem nQ {p:Prop} (h:p:=by simp only [Act.put,q1,q2,q3,i64_w,i32_w];rfl):p:=h
theorem rN {r : List (Nat × Nat)} {fuel : Nat} {l : Array Bool} {a a' : Act} {w : World} (ha : a = a') (h : Todo r (wpAnyLast P md ops Q S ds fuel l a' w)) : Todo r (wpAnyLast P md ops Q S ds fuel l a w) := norm_ ha h
end
/-- All steps that only yield. -/
theorem rR {p q : Prop} (hq : q) (h : q → p := by
  intro hq_
  repeat first
    | (refine rP HT_ rfl rfl (by kernel_rfl) hh (Or.inl ⟨by rfl, by intro w'; go_simp; with_reducible rfl⟩) (by simp only [Act.put, q1, q2, q3, i64_w, i32_w]; rfl) ?_)
    | (refine rP (v := undef) HT_ rfl rfl (by kernel_rfl) hh (Or.inr ⟨by rfl, rfl⟩) (by simp only [Act.put, q1, q2, q3, i64_w, i32_w]; rfl) ?_)
    | (refine rT HT_ HW_ hHeld rfl rfl (by kernel_rfl) hh (Or.inl ⟨by rfl, by intro w' hs; (repeat (have s_ := hs.1; replace hs := hs.2)); go_simp; with_reducible rfl⟩) (by simp only [Act.put, q1, q2, q3, i64_w, i32_w]; rfl) ?_)
  exact hq_) : p := h hq
theorem D0 {p : Prop} (h : p := by first|(with_reducible assumption)|assumption) : p := h
theorem D1 {p : Prop} (h : p := by first|rfl|(simp;done)|(simp [*];done)) : p := h
theorem D2 {p : Prop} (h : p := by first|rfl|(simp [errW_none,errW_some] <;> rfl)|(simp [*,errW_none,errW_some] <;> rfl)) : p := h
theorem D3 {p : Prop} (h : p := by repeat (first|(with_reducible first|exact HK.out|apply KeepBut.set_|apply keep_drewN|apply keep_drew|apply keep_alloc)|exact HK.out)) : p := h
theorem D4 {p : Prop} (h : p := by repeat (first|(with_reducible first|exact HK.out|apply KeepBut.set_|apply keep_drewN|apply keep_drew|apply keep_alloc|refine keep_far ?_ GW409.out _|refine keep_far ?_ GW414.out _)|exact HK.out)) : p := h
theorem D5 {p : Prop} (h : p := by kernel_rfl) : p := h
theorem D6 {p : Prop} (h : p := by repeat (first|(with_reducible first|exact HI0.out|apply IsS127.alloc|apply IsS127.drewN|apply IsS127.drew|apply IsS127.set_1|apply IsS127.set_2)|exact HI0.out)) : p := h
theorem D7 {p : Prop} (h : p := by repeat (first|(with_reducible first|exact HB.out|apply pa|apply pb|apply pd|refine pt ?_ (IsS127.ge HI0.out))|exact HB.out)) : p := h
theorem D8 {p : Prop} (h : p := by decide) : p := h
theorem D9 {p : Prop} (h : p := by repeat (first|(with_reducible first|exact HI0.out|apply IsS127.alloc|apply IsS127.drewN|apply IsS127.drew|apply IsS127.set_1|apply IsS127.set_2|refine IsS127.far ?_ NB0_409.out _|refine IsS127.far ?_ NB0_414.out _)|exact HI0.out)) : p := h
theorem D10 {p : Prop} (h : p := by (try simp only [q4,q5,q6]);first|done|rfl|(simp only [q7,q8];rfl)) : p := h
theorem D11 {p : Prop} (h : p := by omega) : p := h
theorem D12 {p : Prop} (h : p := by repeat (first|exact Drawn0.refl _|apply Drawn0.step)) : p := h
theorem D13 {p : Prop} (h : p := by repeat (first|(with_reducible first|exact HB.out|apply pa|apply pb|apply pd|refine pt ?_ (IsS127.ge HI0.out)|refine pt ?_ GE409.out|refine pt ?_ GE414.out)|exact HB.out)) : p := h
theorem D14 {p : Prop} (h : p := by first|exact Kd.R_nil _ _ _ _ _|exact Kd.N_nil _ _ _ _ _|exact Kd.V_nil _ _ _ _ _|exact Kd.Q_nil _ _ _ _ _|exact Kd.S_nil _ _ _ _ _) : p := h
theorem D15 {p : Prop} (h : p := by rfl) : p := h
theorem D16 {p : Prop} (h : p := by refine sV ?_;exact (Kd.V_mono (Kd.V_far (p:=⟨gb582,1,none⟩) (Kd.V_far (p:=⟨gb582,0,none⟩) (Kd.V_mono HL581_1.out (fun k_ hk=>(⟨hk,hk.2⟩:_∧k_ ≠ gb582))) (fun _ hk=>hk.2) (.int .i64 ((rd_T76 t547 x162_4).f0))) (fun _ hk=>hk.2) (.slice A581_1 ((rd_T76 t547 x162_4).f1).length c581_1)) (fun _ h_=>h_.1))) : p := h
theorem D17 {p : Prop} (h : p := by repeat (first|(with_reducible first|exact HK.out|apply KeepBut.set_|apply keep_drewN|apply keep_drew|apply keep_alloc|refine keep_far ?_ GW168.out _|refine keep_far ?_ GW173.out _)|exact HK.out)) : p := h
theorem D18 {p : Prop} (h : p := by first|exact Kd.S_nil _ _ _ _ _|exact Kd.N_nil _ _ _ _ _|exact Kd.V_nil _ _ _ _ _|exact Kd.Q_nil _ _ _ _ _|exact Kd.R_nil _ _ _ _ _) : p := h
theorem D19 {p : Prop} (h : p := by refine sN ?_;exact Kd.N_mono (Kd.N_far (p:=⟨gb579,0,none⟩) (Kd.N_mono HO577.out (fun k_ hk=>(⟨hk,hk.2⟩:_∧k_ ≠ gb579))) (fun _ hk=>hk.2) (.slice Ao63 t575.length co63)) (fun _ hk=>⟨hk.1.1.2.1,⟨hk.1.1.2.2.2.2.2,hk.1.2⟩⟩)) : p := h
theorem D20 {p : Prop} (h : p := by refine sN ?_;exact Kd.N_mono (Kd.N_far (p:=⟨gb579,0,none⟩) (Kd.N_mono HO_7.out (fun k_ hk=>(⟨hk,hk.2⟩:_∧k_ ≠ gb579))) (fun _ hk=>hk.2) (.slice Ao63 t575.length co63)) (fun _ hk=>⟨hk.1.1.2,⟨hk.1.1.1.1.2.2.2,hk.1.2⟩⟩)) : p := h
theorem D21 {p : Prop} (h : p := by refine sR ?_;exact (Kd.R_mono (Kd.R_far (p:=⟨gb395,1,none⟩) (Kd.R_far (p:=⟨gb395,0,none⟩) (Kd.R_types HO_9.out BK395.out D8) (fun _ hk=>hk.2) (.int .i64 ((rd_T76 y386 x60_3).f0))) (fun _ hk=>hk.2) (.slice A394_1 ((rd_T76 y386 x60_3).f1).length c394_1)) (fun _ h_=>h_.1))) : p := h
theorem D22 {p : Prop} (h : p := by repeat (first|(with_reducible first|exact HK.out|apply KeepBut.set_|apply keep_drewN|apply keep_drew|apply keep_alloc|refine keep_far ?_ GW312.out _|refine keep_far ?_ GW316.out _)|exact HK.out)) : p := h
theorem D23 {p : Prop} (h : p := by repeat (first|(with_reducible first|exact HK.out|apply KeepBut.set_|apply keep_drewN|apply keep_drew|apply keep_alloc|refine keep_far ?_ GW409.out _)|exact HK.out)) : p := h
theorem D24 {p : Prop} (h : p := by repeat (first|(with_reducible first|exact HK.out|apply KeepBut.set_|apply keep_drewN|apply keep_drew|apply keep_alloc|refine keep_far ?_ GW312.out _)|exact HK.out)) : p := h
theorem D25 {p : Prop} (h : p := by repeat (first|(with_reducible exact HR581_1.out)|(with_reducible refine Kd.C_alloc ?_ _)|(with_reducible refine Kd.C_drewN ?_ _)|(with_reducible refine Kd.C_drew ?_)|exact HR581_1.out)) : p := h
theorem D26 {p : Prop} (h : p := by first|exact Kd.N_base ho0|exact Kd.S_base ho0|exact Kd.R_base ho0) : p := h
theorem D27 {p : Prop} (h : p := by (try simp only [q4,q5,q6]);first|done|rfl|(go_simp;done)) : p := h
theorem D28 {p : Prop} (h : p := by refine sR ?_;exact (Kd.R_mono (Kd.R_far (p:=⟨gb579,0,none⟩) (Kd.R_types HO573.out BK579.out D8) (fun _ hk=>hk.2) (.slice Ao63 t575.length co63)) (fun _ h_=>h_.1))) : p := h
theorem D29 {p : Prop} (h : p := by refine sR ?_;exact (Kd.R_mono (Kd.R_far (p:=⟨gb579,0,none⟩) (Kd.R_types HO_6.out BK579.out D8) (fun _ hk=>hk.2) (.slice Ao63 t575.length co63)) (fun _ h_=>h_.1))) : p := h
theorem D30 {p : Prop} (h : p := by refine sN ?_;exact (Kd.N_mono (Kd.N_far (p:=⟨gb612,1,none⟩) (Kd.N_far (p:=⟨gb612,0,none⟩) (Kd.N_mono HO611.out (fun k_ hk=>(⟨hk,hk.2⟩:_∧k_ ≠ gb612))) (fun _ hk=>hk.2) (.int .i64 t607)) (fun _ hk=>hk.2) (.int .i64 t608)) (fun _ h_=>h_.1))) : p := h
theorem D31 {p : Prop} (h : p := by refine sN ?_;exact (Kd.N_mono (Kd.N_far (p:=⟨gb597,1,none⟩) (Kd.N_far (p:=⟨gb597,0,none⟩) (Kd.N_mono HO596.out (fun k_ hk=>(⟨hk,hk.2⟩:_∧k_ ≠ gb597))) (fun _ hk=>hk.2) (.int .i64 t592)) (fun _ hk=>hk.2) (.int .i64 t593)) (fun _ h_=>h_.1))) : p := h
theorem D32 {p : Prop} (h : p := by rw [← hw_];refine sN ?_;exact Kd.N_mono (Kd.N_far (p:=⟨gb521,1,none⟩) (Kd.N_far (p:=⟨gb521,0,none⟩) (Kd.N_mono HO_520000.out (fun k_ hk=>(⟨hk,hk.2⟩:_∧k_ ≠ gb521))) (fun _ hk=>hk.2) (.int .i64 ((rd_T76 l1 x25_2).f0))) (fun _ hk=>hk.2) (.slice A520_1 ((rd_T76 l1 x25_2).f1).length c520_1)) (fun _ hk=>⟨hk.1.1.1,⟨hk.1.1.2.1,⟨hk.1.1.2.2,hk.1.2⟩⟩⟩)) : p := h
theorem D33 {p : Prop} (h : p := by first|(go_simp;done)|(go_simp;rfl)) : p := h
theorem D34 {p : Prop} (h : p := by have:=HK1.out;omega) : p := h
theorem D35 {p : Prop} (h : p := by (try simp only [q4,q5,q6]);first|done|rfl|(go_simp;done)|(simp only [q7,q8];rfl)) : p := h
theorem D36 {p : Prop} (h : p := by repeat (first|(with_reducible first|exact HI0.out|apply IsS127.alloc|apply IsS127.drewN|apply IsS127.drew|apply IsS127.set_1|apply IsS127.set_2|refine IsS127.far ?_ NB0_168.out _|refine IsS127.far ?_ NB0_173.out _)|exact HI0.out)) : p := h
theorem D37 {p : Prop} (h : p := by repeat (first|(with_reducible first|exact HB.out|apply pa|apply pb|apply pd|refine pt ?_ (IsS127.ge HI0.out)|refine pt ?_ GE168.out|refine pt ?_ GE173.out)|exact HB.out)) : p := h
theorem D38 {p : Prop} (h : p := by refine sR ?_;exact (Kd.R_mono (Kd.R_far (p:=⟨gb612,1,none⟩) (Kd.R_far (p:=⟨gb612,0,none⟩) (Kd.R_types HO_6.out BK612.out D8) (fun _ hk=>hk.2) (.int .i64 t607)) (fun _ hk=>hk.2) (.int .i64 t608)) (fun _ h_=>h_.1))) : p := h
theorem D39 {p : Prop} (h : p := by refine sN ?_;exact (Kd.N_mono (Kd.N_far (p:=⟨gb582,1,none⟩) (Kd.N_far (p:=⟨gb582,0,none⟩) (Kd.N_mono HO_580000.out (fun k_ hk=>(⟨hk,hk.2⟩:_∧k_ ≠ gb582))) (fun _ hk=>hk.2) (.int .i64 ((rd_T76 t547 x162_4).f0))) (fun _ hk=>hk.2) (.slice A581_1 ((rd_T76 t547 x162_4).f1).length c581_1)) (fun _ h_=>h_.1))) : p := h
theorem D40 {p : Prop} (h : p := by refine sN ?_;exact (Kd.N_mono (Kd.N_far (p:=⟨gb582,1,none⟩) (Kd.N_far (p:=⟨gb582,0,none⟩) (Kd.N_mono HO_160.out (fun k_ hk=>(⟨hk,hk.2⟩:_∧k_ ≠ gb582))) (fun _ hk=>hk.2) (.int .i64 ((rd_T76 t547 x162_4).f0))) (fun _ hk=>hk.2) (.slice A581_1 ((rd_T76 t547 x162_4).f1).length c581_1)) (fun _ h_=>h_.1))) : p := h
theorem D41 {p : Prop} (h : p := by exact (fun _ _=>trivial)) : p := h
theorem D42 {p : Prop} (h : p := by rw [← hw_];refine sR ?_;exact Kd.R_mono (Kd.R_far (p:=⟨gb521,1,none⟩) (Kd.R_far (p:=⟨gb521,0,none⟩) (Kd.R_types HO_7.out BK521.out D8) (fun _ hk=>hk.2) (.int .i64 ((rd_T76 l1 x25_2).f0))) (fun _ hk=>hk.2) (.slice A520_1 ((rd_T76 l1 x25_2).f1).length c520_1)) (fun _ hk=>trivial)) : p := h
theorem D43 {p : Prop} (h : p := by simp) : p := h
theorem D44 {p : Prop} (h : p := by refine sS ?_;exact (Kd.S_mono (Kd.S_far (p:=⟨gb395,1,none⟩) (Kd.S_far (p:=⟨gb395,0,none⟩) (Kd.S_types HO_8.out BK395.out D8) (fun _ hk=>hk.2) (.int .i64 ((rd_T76 y386 x60_3).f0))) (fun _ hk=>hk.2) (.slice A394_1 ((rd_T76 y386 x60_3).f1).length c394_1)) (fun _ h_=>h_.1))) : p := h
theorem D45 {p : Prop} (h : p := by refine sS ?_;exact (Kd.S_mono (Kd.S_far (p:=⟨gb395,1,none⟩) (Kd.S_far (p:=⟨gb395,0,none⟩) (Kd.S_types HO_7.out BK395.out D8) (fun _ hk=>hk.2) (.int .i64 ((rd_T76 y386 x60_3).f0))) (fun _ hk=>hk.2) (.slice A394_1 ((rd_T76 y386 x60_3).f1).length c394_1)) (fun _ h_=>h_.1))) : p := h
theorem D46 {p : Prop} (h : p := by repeat (first|(with_reducible first|exact HK.out|apply KeepBut.set_|apply keep_drewN|apply keep_drew|apply keep_alloc|refine keep_far ?_ GW168.out _)|exact HK.out)) : p := h
theorem D47 {p : Prop} (h : p := by exact (pz (yW HB))) : p := h
theorem D48 {p : Prop} (h : p := by refine sB ?_;refine blk_put (cs:=#[.slice none 0 0]) ?_ 0 _ rfl;exact yB BK579) : p := h
theorem D49 {p : Prop} (h : p := by refine sR ?_;exact (Kd.R_mono (Kd.R_far (p:=⟨gb546,1,none⟩) (Kd.R_far (p:=⟨gb546,0,none⟩) (Kd.R_types HO545.out BK546.out D8) (fun _ hk=>hk.2) (.int .i64 t541)) (fun _ hk=>hk.2) (.int .i64 t542)) (fun _ h_=>h_.1))) : p := h
theorem D50 {p : Prop} (h : p := by rw [← hw_];refine sB ?_;refine blk_put (cs:=#[.int .i64 ((rd_T76 l1 x25_2).f0), .slice none 0 0]) ?_ 1 _ rfl;refine sB ?_;refine blk_put (cs:=#[.int .i64 0, .slice none 0 0]) ?_ 0 _ rfl;exact yB BK521) : p := h
theorem D51 {p : Prop} (h : p := by exact (Reps.none _ _)) : p := h
theorem D52 {p : Prop} (h : p := by refine sB ?_;refine blk_put (cs:=#[.int .i64 ((rd_T76 t547 x162_4).f0), .slice none 0 0]) ?_ 1 _ rfl;refine sB ?_;refine blk_put (cs:=#[.int .i64 0, .slice none 0 0]) ?_ 0 _ rfl;exact yB BK582) : p := h
theorem D53 {p : Prop} (h : p := by refine sB ?_;refine blk_put (cs:=#[.int .i64 ((rd_T76 y386 x60_3).f0), .slice none 0 0]) ?_ 1 _ rfl;refine sB ?_;refine blk_put (cs:=#[.int .i64 0, .slice none 0 0]) ?_ 0 _ rfl;exact yB BK395) : p := h
theorem D54 {p : Prop} (h : p := by first|omega|exact Nat.le_refl _) : p := h
theorem D55 {p : Prop} (h : p := by exact (yW HB)) : p := h
theorem D56 {p : Prop} (h : p := by have:=HJ7.out;have:=HK2.out;first|omega|exact Nat.le_refl _) : p := h
theorem D57 {p : Prop} (h : p := by rw [idM_length];exact HN.out.symm) : p := h
theorem D58 {p : Prop} (h : p := by refine sR ?_;exact (Kd.R_mono (Kd.R_far (p:=⟨gb537,0,none⟩) (Kd.R_types HO_7.out BK537.out D8) (fun _ hk=>hk.2) (.slice Ao67 t533.length co67)) (fun _ h_=>h_.1))) : p := h
theorem D59 {p : Prop} (h : p := by repeat (first|(with_reducible first|exact HK.out|apply KeepBut.set_|apply keep_drewN|apply keep_drew|apply keep_alloc|refine keep_far ?_ GW390.out _)|exact HK.out)) : p := h
theorem D60 {p : Prop} (h : p := by refine sB ?_;refine blk_put (cs:=#[.int .i64 t410, .int .i64 0]) ?_ 1 _ rfl;refine sB ?_;refine blk_put (cs:=#[.int .i64 0, .int .i64 0]) ?_ 0 _ rfl;exact yB BK409) : p := h
theorem D61 {p : Prop} (h : p := by rw [← HN.out];exact hn2) : p := h
theorem D62 {p : Prop} (h : p := by rw [← HN.out];exact hn1) : p := h
theorem D63 {p : Prop} (h : p := by rw [← HN.out];exact hc0) : p := h
theorem D64 {p : Prop} (h : p := by rw [idM_length];exact hIc) : p := h
theorem D65 {p : Prop} (h : p := by refine sN ?_;exact (Kd.N_mono (Kd.N_far (p:=⟨gb597,1,none⟩) (Kd.N_far (p:=⟨gb597,0,none⟩) (Kd.N_mono HO_580000.out (fun k_ hk=>(⟨hk,hk.2⟩:_∧k_ ≠ gb597))) (fun _ hk=>hk.2) (.int .i64 t592)) (fun _ hk=>hk.2) (.int .i64 t593)) (fun _ h_=>h_.1))) : p := h
theorem D66 {p : Prop} (h : p := by refine sN ?_;exact (Kd.N_mono (Kd.N_far (p:=⟨gb597,1,none⟩) (Kd.N_far (p:=⟨gb597,0,none⟩) (Kd.N_mono HO_160.out (fun k_ hk=>(⟨hk,hk.2⟩:_∧k_ ≠ gb597))) (fun _ hk=>hk.2) (.int .i64 t592)) (fun _ hk=>hk.2) (.int .i64 t593)) (fun _ h_=>h_.1))) : p := h
theorem D67 {p : Prop} (h : p := by refine sN ?_;exact (Kd.N_mono (Kd.N_far (p:=⟨gb612,1,none⟩) (Kd.N_far (p:=⟨gb612,0,none⟩) (Kd.N_mono HO_7.out (fun k_ hk=>(⟨hk,hk.2⟩:_∧k_ ≠ gb612))) (fun _ hk=>hk.2) (.int .i64 t607)) (fun _ hk=>hk.2) (.int .i64 t608)) (fun _ h_=>h_.1))) : p := h
theorem D68 {p : Prop} (h : p := by refine sN ?_;exact Kd.N_mono (Kd.N_far (p:=⟨gb409,1,none⟩) (Kd.N_far (p:=⟨gb409,0,none⟩) (Kd.N_mono HO_6.out (fun k_ hk=>(⟨hk,hk.2.1⟩:_∧k_ ≠ gb409))) (fun _ hk=>hk.2) (.int .i64 t410)) (fun _ hk=>hk.2) (.int .i64 t411)) (fun _ hk=>hk.1.1)) : p := h
theorem D69 {p : Prop} (h : p := by rw [← hw_];repeat (first|(with_reducible first|exact HI0.out|apply IsS127.alloc|apply IsS127.drewN|apply IsS127.drew|apply IsS127.set_1|apply IsS127.set_2|refine IsS127.far ?_ NB0_312.out _|refine IsS127.far ?_ NB0_316.out _)|exact HI0.out)) : p := h
theorem D70 {p : Prop} (h : p := by repeat (first|(with_reducible first|exact HI0.out|apply IsS127.alloc|apply IsS127.drewN|apply IsS127.drew|apply IsS127.set_1|apply IsS127.set_2|refine IsS127.far ?_ NB0_312.out _|refine IsS127.far ?_ NB0_316.out _)|exact HI0.out)) : p := h
theorem D71 {p : Prop} (h : p := by refine sS ?_;exact Kd.S_mono HO_8.out (fun k_ hk=>⟨⟨hk.1,⟨hk.2.1,hk.2.2.2⟩⟩,fun e_=>hk.2.2.1 e_⟩)) : p := h
theorem D72 {p : Prop} (h : p := by refine sN ?_;exact Kd.N_mono HO549.out (fun _ hk=>⟨hk.1.1,hk.1.2⟩)) : p := h
theorem D73 {p : Prop} (h : p := by rw [← hw_];repeat (first|(with_reducible first|exact HK.out|apply KeepBut.set_|apply keep_drewN|apply keep_drew|apply keep_alloc|refine keep_far ?_ GW312.out _|refine keep_far ?_ GW316.out _)|exact HK.out)) : p := h
theorem D74 {p : Prop} (h : p := by refine sN ?_;exact (Kd.N_mono (Kd.N_far (p:=⟨gb537,0,none⟩) (Kd.N_mono HO535.out (fun k_ hk=>(⟨hk,hk.2⟩:_∧k_ ≠ gb537))) (fun _ hk=>hk.2) (.slice Ao67 t533.length co67)) (fun _ h_=>h_.1))) : p := h
theorem D75 {p : Prop} (h : p := by refine sS ?_;exact Kd.S_mono HO_8.out (fun _ hk=>⟨⟨hk.1,⟨hk.2.1,hk.2.2.2⟩⟩,hk.2.2.1⟩)) : p := h
theorem D76 {p : Prop} (h : p := by repeat (first|(with_reducible first|exact HI0.out|apply IsS127.alloc|apply IsS127.drewN|apply IsS127.drew|apply IsS127.set_1|apply IsS127.set_2|refine IsS127.far ?_ NB0_409.out _)|exact HI0.out)) : p := h
theorem D77 {p : Prop} (h : p := by repeat (first|(with_reducible first|exact HI0.out|apply IsS127.alloc|apply IsS127.drewN|apply IsS127.drew|apply IsS127.set_1|apply IsS127.set_2|refine IsS127.far ?_ NB0_312.out _)|exact HI0.out)) : p := h
theorem D78 {p : Prop} (h : p := by have:=HK1.out;have:=HK2.out;omega) : p := h
theorem D79 {p : Prop} (h : p := by exact rfl) : p := h
theorem D80 {p : Prop} (h : p := by have:=HK1.out;have:=HK2.out;have:=HK3.out;omega) : p := h
theorem D81 {p : Prop} (h : p := by simp [Value.ownBlock]) : p := h
theorem D82 {p : Prop} (h : p := by rw [← hw_];repeat (first|(with_reducible first|exact HB.out|apply pa|apply pb|apply pd|refine pt ?_ (IsS127.ge HI0.out)|refine pt ?_ GE312.out|refine pt ?_ GE316.out)|exact HB.out)) : p := h
theorem D83 {p : Prop} (h : p := by exact (Kd.R_reads' HO573.out).2.1) : p := h
theorem D84 {p : Prop} (h : p := by rw [← hw_];refine sB ?_;refine blk_put (cs:=#[.int .i64 0, .int .i64 0]) ?_ 1 _ rfl;refine sB ?_;refine blk_put (cs:=#[.int .i64 0, .int .i64 0]) ?_ 0 _ rfl;exact yB BK316) : p := h
theorem D85 {p : Prop} (h : p := by exact (Kd.R_reads' HO_6.out).2.1) : p := h
theorem D86 {p : Prop} (h : p := by repeat (first|(with_reducible first|exact HB.out|apply pa|apply pb|apply pd|refine pt ?_ (IsS127.ge HI0.out)|refine pt ?_ GE312.out|refine pt ?_ GE316.out)|exact HB.out)) : p := h
theorem D87 {p : Prop} (h : p := by refine sS ?_;exact Kd.S_mono HO411.out (fun _ hk=>⟨⟨hk.2.1,hk.2.2⟩,hk.1⟩)) : p := h
theorem D88 {p : Prop} (h : p := by refine sB ?_;refine blk_put (cs:=#[.int .i64 t607, .int .i64 0]) ?_ 1 _ rfl;refine sB ?_;refine blk_put (cs:=#[.int .i64 0, .int .i64 0]) ?_ 0 _ rfl;exact yB BK612) : p := h
theorem D89 {p : Prop} (h : p := by refine sB ?_;refine blk_put (cs:=#[.int .i64 t592, .int .i64 0]) ?_ 1 _ rfl;refine sB ?_;refine blk_put (cs:=#[.int .i64 0, .int .i64 0]) ?_ 0 _ rfl;exact yB BK597) : p := h
theorem D90 {p : Prop} (h : p := by refine sB ?_;refine blk_put (cs:=#[.int .i64 t541, .int .i64 0]) ?_ 1 _ rfl;refine sB ?_;refine blk_put (cs:=#[.int .i64 0, .int .i64 0]) ?_ 0 _ rfl;exact yB BK546) : p := h
theorem D91 {p : Prop} (h : p := by refine sB ?_;refine blk_put (cs:=#[.int .i64 t410, .int .i64 0]) ?_ 1 _ rfl;refine sB ?_;refine blk_put (cs:=#[.int .i64 0, .int .i64 0]) ?_ 0 _ rfl;exact yB BK414) : p := h
theorem D92 {p : Prop} (h : p := by refine sB ?_;refine blk_put (cs:=#[.int .i64 t169, .int .i64 0]) ?_ 1 _ rfl;refine sB ?_;refine blk_put (cs:=#[.int .i64 0, .int .i64 0]) ?_ 0 _ rfl;exact yB BK173) : p := h
theorem D93 {p : Prop} (h : p := by refine sR ?_;exact Kd.R_mono HO_9.out (fun _ hk=>⟨⟨hk.1,hk.2.2⟩,hk.2.1⟩)) : p := h
theorem D94 {p : Prop} (h : p := by refine sB ?_;refine blk_put (cs:=#[.slice none 0 0]) ?_ 0 _ rfl;exact yB BK111) : p := h
theorem D95 {p : Prop} (h : p := by have:=hk.2;omega) : p := h
theorem D96 {p : Prop} (h : p := by have:=hk.1;omega) : p := h
theorem D97 {p : Prop} (h : p := by rw [e_];rfl) : p := h
theorem D98 {p : Prop} (h : p := by repeat (first|(with_reducible first|exact HB.out|apply pa|apply pb|apply pd|refine pt ?_ (IsS127.ge HI0.out)|refine pt ?_ GE409.out)|exact HB.out)) : p := h
theorem D99 {p : Prop} (h : p := by repeat (first|(with_reducible first|exact HB.out|apply pa|apply pb|apply pd|refine pt ?_ (IsS127.ge HI0.out)|refine pt ?_ GE312.out)|exact HB.out)) : p := h
theorem D100 {p : Prop} (h : p := by first|exact q581|exact od D0|(have e_:=(Kd.N_reads' HO_160.out).1;omega)) : p := h
theorem D101 {p : Prop} (h : p := by refine sR ?_;exact Kd.R_mono HO_79.out (fun _ hk=>⟨trivial,hk.1⟩)) : p := h
theorem D102 {p : Prop} (h : p := by refine sR ?_;exact Kd.R_mono HO_12.out (fun _ hk=>⟨trivial,hk.1⟩)) : p := h
theorem D103 {p : Prop} (h : p := by refine sR ?_;exact Kd.R_mono HO_9.out (fun _ hk=>⟨hk.1,hk.2.2⟩)) : p := h
theorem D104 {p : Prop} (h : p := by have:=HK1.out;first|omega|exact Nat.le_refl _) : p := h
theorem D105 {p : Prop} (h : p := by have:=HJ2.out;have:=HK2.out;first|omega|exact Nat.le_refl _) : p := h
theorem D106 {p : Prop} (h : p := by (try simp only [hl6_1]);(try simp only [hl6_2]);(try simp only [hl6_3]);(try simp only [hl50_3]);exact yB BK458) : p := h
theorem D107 {p : Prop} (h : p := by refine sN ?_;exact Kd.N_mono HO_6.out (fun _ hk=>⟨hk.1,⟨hk.2.2.2.1,⟨hk.2.2.2.2.1,hk.2.2.2.2.2⟩⟩⟩)) : p := h
set_option maxHeartbeats 8000000
set_option maxRecDepth 100000
def impl_Times.l0:Nat→Int→Int→Int→Int→Option (Int)
 | 0,_,_,_,_=>none
 | k+1,x1,x5,x6,x7=>if x6 < 8 then (if 0≤x6 then (if (Go.bits .and .u8 (shr .u8 x1 x6) 1)=1 then (if (wrap64 (x7*2)) > 255 then (impl_Times.l0 k x1 (Go.bits .xor .i64 x5 x7) (wrap64 (x6+1)) (Go.bits .xor .i64 (wrap64 (x7*2)) 283)) else (impl_Times.l0 k x1 (Go.bits .xor .i64 x5 x7) (wrap64 (x6+1)) (wrap64 (x7*2)))) else (if (wrap64 (x7*2)) > 255 then (impl_Times.l0 k x1 x5 (wrap64 (x6+1)) (Go.bits .xor .i64 (wrap64 (x7*2)) 283)) else (impl_Times.l0 k x1 x5 (wrap64 (x6+1)) (wrap64 (x7*2))))) else (none)) else (some ((x5) % 256))
def impl_Times.f (k:Nat) (a0:Int) (a1:Int):Option (Int):=impl_Times.l0 k a1 0 0 (wrap64 (a0))
theorem impl_Times.mono_l:∀ k,(∀ y0 y1 y2 y3,LeO (impl_Times.l0 k y0 y1 y2 y3) (impl_Times.l0 (k+1) y0 y1 y2 y3))
 | 0=>fun _ _ _ _ r h=>by simp [impl_Times.l0] at h
 | k+1=>by
  have ih0:=impl_Times.mono_l k
  intro y0 y1 y2 y3
  unfold impl_Times.l0
  exact mm
theorem impl_Times.mono:∀ a0 a1 k,LeO (impl_Times.f k a0 a1) (impl_Times.f (k+1) a0 a1):=by
 intro a0 a1 k
 have ih0:=impl_Times.mono_l k
 unfold impl_Times.f
 exact mm
theorem impl_Times.calls (k:Nat) (a0:Int) (a1:Int) (r:Int) (w:World) (h:impl_Times.f k a0 a1=some r) :
  Calls Try.prog 51 #[.int .u8 a0, .int .u8 a1] w fun e w'=>e = .returned (.int .u8 r)∧Drawn0 w w':=by
 have H:=h
 unfold impl_Times.f at H
 clear h
 have H':=am H
 clear H
 go_enter Try.func51,Try.ntmps51
 go_wp2
 go_loopg [5,6,7] k (fun kq v5 v6 v7 w'=>∃ (x5_1:Int) (x6_1:Int) (x7_1:Int),v5 = .int .i64 x5_1∧v6 = .int .i64 x6_1∧v7 = .int .i64 x7_1∧Aside0 (impl_Times.l0 kq a1 x5_1 x6_1 x7_1=some r)∧Aside0 (kq≤k)∧Drawn0 w w')
 case atStart=>exact ⟨(0),(0),(wrap64 (a0)),D1,D1,D1,H',⟨Nat.le_refl _⟩,D12⟩
 case round =>
  clear H'
  try clear p2
  obtain ⟨x5_1,x6_1,x7_1,rfl,rfl,rfl,HA,HK1,⟨m1,rfl⟩⟩:=hrel
  cases gk with
  | zero=>exact absurd HA.out (by simp [impl_Times.l0])
  | succ k1 =>
   have H:=HA.out
   clear HA
   simp only [impl_Times.l0] at H
   by_cases c3:x6_1 < 8
   ·rw [if_pos c3] at H
    have c3b0:=decide_eq_true c3
    clear c3
    obtain ⟨c4,H⟩:=yi H
    have c4b0:=eq_true c4
    have c4b1:decide (0≤x6_1)=true:=decide_eq_true c4
    clear c4
    generalize hji5:(shr .u8 a1 x6_1)=ji5 at H
    have hji5_:(a1 / 2 ^ min x6_1.toNat 8)=ji5:=hji5
    have hji5z:x6_1≤8→(a1 / 2 ^ x6_1.toNat)=ji5:=shr_small hji5
    by_cases c6:(Go.bits .and .u8 (ji5) 1)=1
    ·rw [if_pos c6] at H
     have c6b0:((Go.bits .and .u8 (ji5) 1) == 1)=true:=beq_iff_eq.mpr c6
     have c6b1:((Go.bits .and .u8 (ji5) 1) != 1)=false:=bne_eq_false_iff_eq.mpr c6
     clear c6
     by_cases c7:(wrap64 (x7_1*2)) > 255
     ·rw [if_pos c7] at H
      have c7b0:decide (255 < (wrap64 (x7_1*2)))=true:=decide_eq_true c7
      clear c7
      have H':=am H
      clear H
      go_wp2
      go_roundg k1
      case measure=>have:=HK1.out;omega
      case rel=>exact ⟨(Go.bits .xor .i64 x5_1 x7_1),(wrap64 (x6_1+1)),(Go.bits .xor .i64 (wrap64 (x7_1*2)) 283),D1,D1,D1,H',⟨D34⟩,D12⟩
     rw [if_neg c7] at H
     have c7b0:decide (255 < (wrap64 (x7_1*2)))=false:=decide_eq_false c7
     clear c7
     have H':=am H
     clear H
     go_wp2
     go_roundg k1
     case measure=>have:=HK1.out;omega
     case rel=>exact ⟨(Go.bits .xor .i64 x5_1 x7_1),(wrap64 (x6_1+1)),(wrap64 (x7_1*2)),D1,D1,D1,H',⟨D34⟩,D12⟩
    rw [if_neg c6] at H
    have c6b0:((Go.bits .and .u8 (ji5) 1) == 1)=false:=beq_eq_false_iff_ne.mpr c6
    have c6b1:((Go.bits .and .u8 (ji5) 1) != 1)=true:=bne_iff_ne.mpr c6
    by_cases c8:(wrap64 (x7_1*2)) > 255
    ·rw [if_pos c8] at H
     have c8b0:decide (255 < (wrap64 (x7_1*2)))=true:=decide_eq_true c8
     clear c8
     have H':=am H
     clear H
     go_wp2
     go_roundg k1
     case measure=>have:=HK1.out;omega
     case rel=>exact ⟨(x5_1),(wrap64 (x6_1+1)),(Go.bits .xor .i64 (wrap64 (x7_1*2)) 283),D1,D1,D1,H',⟨D34⟩,D12⟩
    rw [if_neg c8] at H
    have c8b0:decide (255 < (wrap64 (x7_1*2)))=false:=decide_eq_false c8
    clear c8
    have H':=am H
    clear H
    go_wp2
    go_roundg k1
    case measure=>have:=HK1.out;omega
    case rel=>exact ⟨(x5_1),(wrap64 (x6_1+1)),(wrap64 (x7_1*2)),D1,D1,D1,H',⟨D34⟩,D12⟩
   rw [if_neg c3] at H
   have c3b0:=decide_eq_false c3
   clear c3
   obtain rfl:=Option.some.inj H
   go_wp2
   go_ret
   exact ⟨D1,D12⟩

def impl_power.l0:Nat→Int→Int→Int→Option (Int)
 | 0,_,_,_=>none
 | k+1,x0,x1,x5=>if x1 > 0 then (if (Go.bits .and .i64 x1 1)=1 then ((impl_Times.f k x5 x0).bind fun t101=>((impl_Times.f k x0 x0).bind fun t102=>(impl_power.l0 k t102 (x1 / 2) t101))) else ((impl_Times.f k x0 x0).bind fun t103=>(impl_power.l0 k t103 (x1 / 2) x5))) else (some x5)
def impl_power.f (k:Nat) (a0:Int) (a1:Int):Option (Int):=impl_power.l0 k a0 a1 1
theorem impl_power.mono_l:∀ k,(∀ y0 y1 y2,LeO (impl_power.l0 k y0 y1 y2) (impl_power.l0 (k+1) y0 y1 y2))
 | 0=>fun _ _ _ r h=>by simp [impl_power.l0] at h
 | k+1=>by
  have ih0:=impl_power.mono_l k
  intro y0 y1 y2
  unfold impl_power.l0
  exact mm
theorem impl_power.mono:∀ a0 a1 k,LeO (impl_power.f k a0 a1) (impl_power.f (k+1) a0 a1):=by
 intro a0 a1 k
 have ih0:=impl_power.mono_l k
 unfold impl_power.f
 exact mm
theorem impl_power.calls (k:Nat) (a0:Int) (a1:Int) (r:Int) (w:World) (h:impl_power.f k a0 a1=some r) :
  Calls Try.prog 88 #[.int .u8 a0, .int .i64 a1] w fun e w'=>e = .returned (.int .u8 r)∧Drawn0 w w':=by
 have H:=h
 unfold impl_power.f at H
 clear h
 have H':=am H
 clear H
 go_enter Try.func88,Try.ntmps88
 go_wp2
 go_loopg [0,1,5] k (fun kq v0 v1 v5 w'=>∃ (x0_1:Int) (x1_1:Int) (x5_1:Int),v0 = .int .u8 x0_1∧v1 = .int .i64 x1_1∧v5 = .int .u8 x5_1∧Aside0 (impl_power.l0 kq x0_1 x1_1 x5_1=some r)∧Aside0 (kq≤k)∧Drawn0 w w')
 case atStart=>exact ⟨(a0),(a1),(1),D1,D1,D1,H',⟨Nat.le_refl _⟩,D12⟩
 case round =>
  clear H'
  try clear p2
  obtain ⟨x0_1,x1_1,x5_1,rfl,rfl,rfl,HA,HK1,⟨m1,rfl⟩⟩:=hrel
  cases gk with
  | zero=>exact absurd HA.out (by simp [impl_power.l0])
  | succ k1 =>
   have H:=HA.out
   clear HA
   simp only [impl_power.l0] at H
   by_cases c3:x1_1 > 0
   ·rw [if_pos c3] at H
    have c3b0:decide (0 < x1_1)=true:=decide_eq_true c3
    clear c3
    by_cases c4:(Go.bits .and .i64 x1_1 1)=1
    ·rw [if_pos c4] at H
     have c4b0:((Go.bits .and .i64 x1_1 1) == 1)=true:=beq_iff_eq.mpr c4
     have c4b1:((Go.bits .and .i64 x1_1 1) != 1)=false:=bne_eq_false_iff_eq.mpr c4
     clear c4
     obtain ⟨t101,A5,H⟩:=yo H
     obtain ⟨t102,A6,H⟩:=yo H
     have H':=am H
     clear H
     go_wp2_with (first|((with_reducible refine gC 51 ?_);refine gM (some 15) Try.func51 (args:=#[.int .u8 x5_1, .int .u8 x0_1]) (impl_Times.calls k1 x5_1 x0_1 t101 _ A5.out) ?_;rintro e w' ⟨rfl,⟨nd,rfl⟩⟩;refine ⟨_,rfl,?_⟩)|((with_reducible refine gC 51 ?_);refine gM (some 18) Try.func51 (args:=#[.int .u8 x0_1, .int .u8 x0_1]) (impl_Times.calls k1 x0_1 x0_1 t102 _ A6.out) ?_;rintro e w' ⟨rfl,⟨nd,rfl⟩⟩;refine ⟨_,rfl,?_⟩))
     go_roundg k1
     case measure=>have:=HK1.out;omega
     case rel=>exact ⟨(t102),(x1_1 / 2),(t101),D1,D1,D1,H',⟨D34⟩,D12⟩
    rw [if_neg c4] at H
    have c4b0:((Go.bits .and .i64 x1_1 1) == 1)=false:=beq_eq_false_iff_ne.mpr c4
    have c4b1:((Go.bits .and .i64 x1_1 1) != 1)=true:=bne_iff_ne.mpr c4
    obtain ⟨t103,A7,H⟩:=yo H
    have H':=am H
    clear H
    go_wp2_with (first|((with_reducible refine gC 51 ?_);refine gM (some 18) Try.func51 (args:=#[.int .u8 x0_1, .int .u8 x0_1]) (impl_Times.calls k1 x0_1 x0_1 t103 _ A7.out) ?_;rintro e w' ⟨rfl,⟨nd,rfl⟩⟩;refine ⟨_,rfl,?_⟩))
    go_roundg k1
    case measure=>have:=HK1.out;omega
    case rel=>exact ⟨(t103),(x1_1 / 2),(x5_1),D1,D1,D1,H',⟨D34⟩,D12⟩
   rw [if_neg c3] at H
   have c3b0:decide (0 < x1_1)=false:=decide_eq_false c3
   clear c3
   obtain rfl:=Option.some.inj H
   go_wp2
   go_ret
   exact ⟨D1,D12⟩

def impl_within.f (a0:Int) (a1:Int) (a2:Int):Option (Bool):=if a0 ≥ a1 then (some (decide (a0≤a2))) else (some false)
theorem impl_within.calls (a0:Int) (a1:Int) (a2:Int) (r:Bool) (w:World) (h:impl_within.f a0 a1 a2=some r) :
  Calls Try.prog 104 #[.int .i64 a0, .int .i64 a1, .int .i64 a2] w fun e w'=>e = .returned (.bool r)∧Drawn0 w w':=by
 have H:=h
 unfold impl_within.f at H
 clear h
 by_cases c4:a0 ≥ a1
 ·rw [if_pos c4] at H
  have c4b0:decide (a1≤a0)=true:=decide_eq_true c4
  clear c4
  obtain rfl:=Option.some.inj H
  go_enter Try.func104,Try.ntmps104
  go_wp2
  go_ret
  exact ⟨D1,D12⟩
 rw [if_neg c4] at H
 have c4b0:decide (a1≤a0)=false:=decide_eq_false c4
 clear c4
 obtain rfl:=Option.some.inj H
 go_enter Try.func104,Try.ntmps104
 go_wp2
 go_ret
 exact ⟨D1,D12⟩

def impl_GoodMsr.f (a0_0:Int) (a0_1:Int):Option (Bool):=(impl_within.f a0_1 2 4).bind fun t105=>(if t105=true then ((impl_within.f a0_0 (wrap64 ((wrap64 (2*a0_1)) - 1)) 14).bind fun t106=>(some t106)) else (some false))
theorem impl_GoodMsr.calls (a0_0:Int) (a0_1:Int) (r:Bool) (w:World) (h:impl_GoodMsr.f a0_0 a0_1=some r) :
  Calls Try.prog 46 #[.agg #[.int .i64 a0_0, .int .i64 a0_1]] w fun e w'=>e = .returned (.bool r)∧Below w.heap.size w w':=by
 have hu30:=Try.underlying30
 have HB:=am (Below.refl w.heap.size w)
 have H:=h
 unfold impl_GoodMsr.f at H
 clear h
 obtain ⟨t105,A2,H⟩:=yo H
 by_cases c3:t105=true
 ·subst c3
  replace H:=yt H
  obtain ⟨t106,A4,H⟩:=yo H
  obtain rfl:=Option.some.inj H
  go_enter Try.func46,Try.ntmps46
  go_wp2_with (first|((with_reducible refine gD 1 ?_);refine gB (cs:=#[.int .i64 a0_0, .int .i64 a0_1]) 30 ?_;intro gb104 hg w5 hbox hb;have BK104:=am (hbox);have GW104:=ye HB hg;replace HB:=yH HB hb;have GE104:=GW104;clear hb hbox hg;obtain ⟨hcz6_0,hcz6_1,hfz6_0,hfz6_1⟩:=yk2 BK104)|((with_reducible refine gC 104 ?_);refine gM (some 5) Try.func104 (args:=#[.int .i64 a0_1, .int .i64 2, .int .i64 4]) (impl_within.calls a0_1 2 4 true _ A2.out) ?_;rintro e w' ⟨rfl,⟨nd,rfl⟩⟩;refine ⟨_,rfl,?_⟩)|(go_at_call 104;(with_reducible refine (impl_within.calls a0_0 (wrap64 ((wrap64 (2*a0_1)) - 1)) 14 t106 _ A4.out).mono ?_);rintro e w' ⟨rfl,⟨nd,rfl⟩⟩))
  go_ret
  exact ⟨D2,yW HB⟩
 replace c3:=Bool.eq_false_iff.mpr c3
 subst c3
 replace H:=yn H
 obtain rfl:=Option.some.inj H
 go_enter Try.func46,Try.ntmps46
 go_wp2_with (first|((with_reducible refine gD 1 ?_);refine gB (cs:=#[.int .i64 a0_0, .int .i64 a0_1]) 30 ?_;intro gb104 hg w7 hbox hb;have BK104:=am (hbox);have GW104:=ye HB hg;replace HB:=yH HB hb;have GE104:=GW104;clear hb hbox hg;obtain ⟨hcz8_0,hcz8_1,hfz8_0,hfz8_1⟩:=yk2 BK104)|((with_reducible refine gC 104 ?_);refine gM (some 5) Try.func104 (args:=#[.int .i64 a0_1, .int .i64 2, .int .i64 4]) (impl_within.calls a0_1 2 4 false _ A2.out) ?_;rintro e w' ⟨rfl,⟨nd,rfl⟩⟩;refine ⟨_,rfl,?_⟩))
 go_ret
 exact ⟨D2,yW HB⟩

def impl_Msr_alpha.f (a0_0:Int) (a0_1:Int):Option (Int):=some (wrap64 (a0_1 - 1))
theorem impl_Msr_alpha.calls (a0_0:Int) (a0_1:Int) (r:Int) (w:World) (h:impl_Msr_alpha.f a0_0 a0_1=some r) :
  Calls Try.prog 103 #[.agg #[.int .i64 a0_0, .int .i64 a0_1]] w fun e w'=>e = .returned (.int .i64 r)∧Below w.heap.size w w':=by
 have hu30:=Try.underlying30
 have HB:=am (Below.refl w.heap.size w)
 have H:=h
 unfold impl_Msr_alpha.f at H
 clear h
 obtain rfl:=Option.some.inj H
 go_enter Try.func103,Try.ntmps103
 go_wp2_with (first|((with_reducible refine gD 1 ?_);refine gB (cs:=#[.int .i64 a0_0, .int .i64 a0_1]) 30 ?_;intro gb107 hg w2 hbox hb;have BK107:=am (hbox);have GW107:=ye HB hg;replace HB:=yH HB hb;have GE107:=GW107;clear hb hbox hg;obtain ⟨hcz3_0,hcz3_1,hfz3_0,hfz3_1⟩:=yk2 BK107))
 go_ret
 exact ⟨D2,yW HB⟩

def impl_Msr_size.f (a0_0:Int) (a0_1:Int):Option (Int):=(impl_Msr_alpha.f a0_0 a0_1).bind fun t109=>(some (wrap64 (a0_1*t109)))
theorem impl_Msr_size.calls (a0_0:Int) (a0_1:Int) (r:Int) (w:World) (h:impl_Msr_size.f a0_0 a0_1=some r) :
  Calls Try.prog 59 #[.agg #[.int .i64 a0_0, .int .i64 a0_1]] w fun e w'=>e = .returned (.int .i64 r)∧Below w.heap.size w w':=by
 have hu30:=Try.underlying30
 have HB:=am (Below.refl w.heap.size w)
 have H:=h
 unfold impl_Msr_size.f at H
 clear h
 obtain ⟨t109,A2,H⟩:=yo H
 obtain rfl:=Option.some.inj H
 go_enter Try.func59,Try.ntmps59
 try go_wp2_with (first|((with_reducible refine gD 1 ?_);refine gB (cs:=#[.int .i64 a0_0, .int .i64 a0_1]) 30 ?_;intro gb108 hg w3 hbox hb;have BK108:=am (hbox);have GW108:=ye HB hg;replace HB:=yH HB hb;have GE108:=GW108;clear hb hbox hg))
 replace BK108:=am (qd BK108.out)
 replace HB:=am (pd HB.out)
 refine rS0 (n:=6) (S:=fun w'=>w'.cell? ⟨gb108,0,none⟩=some (.int .i64 a0_0)∧w'.cell? ⟨gb108,1,none⟩=some (.int .i64 a0_1)) (ds:=[]) [(0,3),(1,4),(2,5),(3,0),(4,7),(5,2)] D5 rfl ⟨yk BK108 0,yk BK108 1⟩ (fun hHeld HT_ HW_=>?_)
 generalize w3.drew=w4 at BK108 HB hHeld ⊢
 refine rR ?_
 refine rO (N:=some 6) HT_ rfl rfl D5 D8 (fun K hK=>?_)
 refine goes_ Try.func103 D5 rfl #[.agg #[.int .i64 a0_0, .int .i64 a0_1]] D15 rfl rfl D10 ?_
 with_reducible refine (impl_Msr_alpha.calls a0_0 a0_1 t109 _ A2.out).mono ?_
 rintro e w5 ⟨rfl,hb⟩
 refine ⟨_,rfl,?_⟩
 replace BK108:=yb BK108 hb
 replace HB:=yH HB hb
 (try clear hb)
 (try clear hb2)
 (try clear hk)
 (try clear hi)
 refine hK.out _ _ ⟨yk BK108 0,yk BK108 1⟩ (fun hHeld=>?_)
 clear hK K
 refine rN (nA 6) ?_
 refine rR ?_
 refine rD HT_ D5 ?_
 try go_wp2
 go_ret
 exact ⟨D2,yW HB⟩

theorem fl_info5:(Try.prog.info? 5).map (fun i=>(i.zero,i.size,i.bytes))=some (some (.int .u8 0),1,1):=by kernel_rfl
theorem fl_info32:(Try.prog.info? 24).map (fun i=>(i.zero,i.size,i.bytes))=some (some (.slice none 0 0),1,24):=by kernel_rfl

mutual
def impl_filled.l0 (E:Nat→Int→Int→Option Int):Nat→Int→List (List Int)→Int→Int→Option ((List (List Int)))
 | 0,_,_,_,_=>none
 | k+1,x1,x7,x12,x13=>if x13 < x12 then (impl_filled.l1 E k x1 x7 x13 (([]:List Int)) x12 x13 x1 0) else (some x7)
def impl_filled.l1 (E:Nat→Int→Int→Option Int):Nat→Int→List (List Int)→Int→List Int→Int→Int→Int→Int→Option ((List (List Int)))
 | 0,_,_,_,_,_,_,_,_=>none
 | k+1,x1,x7,x8,x9,x12,x13,x17,x18=>if x18 < x17 then ((E k x8 x18).bind fun t149=>(if x9.length < 140737488355328 then (impl_filled.l1 E k x1 x7 x8 (x9 ++ [t149]) x12 x13 x17 (wrap64 (x18+1))) else (none))) else (if x7.length < 5864062014805 then (impl_filled.l0 E k x1 (x7 ++ [x9]) x12 (wrap64 (x13+1))) else (none))
end
def impl_filled.f (E:Nat→Int→Int→Option Int) (k:Nat) (a0:Int) (a1:Int):Option ((List (List Int))):=impl_filled.l0 E k a1 (([]:List (List Int))) a0 0
theorem impl_filled.mono_l (E:Nat→Int→Int→Option Int) (hE:∀ i j k,LeO (E k i j) (E (k+1) i j)):∀ k,(∀ y0 y1 y2 y3,LeO (impl_filled.l0 E k y0 y1 y2 y3) (impl_filled.l0 E (k+1) y0 y1 y2 y3))∧(∀ y0 y1 y2 y3 y4 y5 y6 y7,LeO (impl_filled.l1 E k y0 y1 y2 y3 y4 y5 y6 y7) (impl_filled.l1 E (k+1) y0 y1 y2 y3 y4 y5 y6 y7))
 | 0=>⟨fun _ _ _ _ r h=>by simp [impl_filled.l0] at h,fun _ _ _ _ _ _ _ _ r h=>by simp [impl_filled.l1] at h⟩
 | k+1=>by
  obtain ⟨ih0,ih1⟩:=impl_filled.mono_l E hE k
  refine ⟨?_,?_⟩
  ·intro y0 y1 y2 y3
   unfold impl_filled.l0
   repeat' first
   | (with_reducible exact ih0 _ _ _ _)
   | (with_reducible exact ih1 _ _ _ _ _ _ _ _)
   | (with_reducible exact hE _ _ _)
   |(with_reducible exact LeO.refl _)|(with_reducible exact LeO.none _)|(with_reducible refine LeO.ite ?_ ?_)|(with_reducible refine LeO.bind ?_ (fun _=>?_))|exact ih0 _ _ _ _|exact ih1 _ _ _ _ _ _ _ _|exact hE _ _ _|exact LeO.none _|refine LeO.ite ?_ ?_|refine LeO.bind ?_ (fun _=>?_)
  intro y0 y1 y2 y3 y4 y5 y6 y7
  unfold impl_filled.l1
  repeat' first
  | (with_reducible exact ih0 _ _ _ _)
  | (with_reducible exact ih1 _ _ _ _ _ _ _ _)
  | (with_reducible exact hE _ _ _)
  |(with_reducible exact LeO.refl _)|(with_reducible exact LeO.none _)|(with_reducible refine LeO.ite ?_ ?_)|(with_reducible refine LeO.bind ?_ (fun _=>?_))|exact ih0 _ _ _ _|exact ih1 _ _ _ _ _ _ _ _|exact hE _ _ _|exact LeO.none _|refine LeO.ite ?_ ?_|refine LeO.bind ?_ (fun _=>?_)
theorem impl_filled.mono (E:Nat→Int→Int→Option Int) (hE:∀ i j k,LeO (E k i j) (E (k+1) i j)):∀ a0 a1 k,LeO (impl_filled.f E k a0 a1) (impl_filled.f E (k+1) a0 a1):=by
 intro a0 a1 k
 obtain ⟨ih0,ih1⟩:=impl_filled.mono_l E hE k
 unfold impl_filled.f
 repeat' first
   | (with_reducible exact ih0 _ _ _ _)
   | (with_reducible exact ih1 _ _ _ _ _ _ _ _)
   | (with_reducible exact hE _ _ _)
   |(with_reducible exact LeO.refl _)|(with_reducible exact LeO.none _)|(with_reducible refine LeO.ite ?_ ?_)|(with_reducible refine LeO.bind ?_ (fun _=>?_))|exact ih0 _ _ _ _|exact ih1 _ _ _ _ _ _ _ _|exact hE _ _ _|exact LeO.none _|refine LeO.ite ?_ ?_|refine LeO.bind ?_ (fun _=>?_)
theorem impl_filled.calls (E:Nat→Int→Int→Option Int) (g:Nat) (eg:∀ args w,(callFunc g args).run Try.prog w = .ok (.enter g args) w) (lb:Array Value) (k:Nat) (a0:Int) (a1:Int) (r:List (List Int)) (w:World)
  (hE:∀ k i j t W,Below w.heap.size w W→E k i j=some t→Calls Try.prog g (#[.int .i64 i, .int .i64 j] ++ lb) W fun e w'=>e = .returned (.int .u8 t)∧Drawn0 W w') (h:impl_filled.f E k a0 a1=some r) :
  Calls Try.prog 86 #[.int .i64 a0, .int .i64 a1, .func (.func g) #[] lb] w fun e w'=>∃ v0_:Value,e = .returned (v0_)∧Kd.S (Kd.slice 5 (Kd.int .u8)) 24 w' w.heap.size (fun _=>True) v0_ r∧Below w.heap.size w w':=by
 have HX:=am hE
 clear hE
 have HB:=am (Below.refl w.heap.size w)
 have H:=h
 unfold impl_filled.f at H
 clear h
 generalize hy143:(([]:List (List Int)):List (List Int))=y143 at H
 have Ny143:=am hy143.symm
 clear hy143
 have H':=am H
 clear H
 go_enter Try.func86,Try.ntmps86
 go_wp2_with (first|((with_reducible refine gD 11 ?_);refine Kd.S_lit (Kd.slice 5 (Kd.int .u8)) _ 24 D15 (N:=11) D15 (xs:=([]:List (List Int))) (inner:=[]) (ok:=fun _=>True) (okp:=fun _=>True) D33 D51 (fun _ hk=>hk) trivial (Below.refl _ _) (Nat.le_refl _) D43 ?_;intro v144 w4 ho5 hb hg_ hnew_;clear hg_ hnew_;(first|rw [← Ny143.out] at ho5|(simp only [Int.reduceToNat] at ho5;rw [← Ny143.out] at ho5));have HO145:=am (Kd.S_lower ho5 (pz (yW HB)));replace HB:=yH HB hb;clear hb ho5))
 go_loopg [7,13] k (fun kq v7 v13 w'=>∃ (x7_1:List (List Int)) (x13_1:Int),v13 = .int .i64 x13_1∧Aside0 (impl_filled.l0 E kq a1 x7_1 a0 x13_1=some r)∧Aside0 (kq≤k)∧Aside0 (Kd.S (Kd.slice 5 (Kd.int .u8)) 24 w' w.heap.size (fun _=>True) v7 x7_1)∧Aside0 (Below w.heap.size w w'))
 case atStart=>exact ⟨(y143),(0),D1,H',⟨Nat.le_refl _⟩,⟨yS HO145⟩,⟨yW HB⟩⟩
 case round =>
  clear H'
  try clear p2
  obtain ⟨x7_1,x13_1,rfl,HA,HK1,HO_7,HB⟩:=hrel
  cases gk with
  | zero=>exact absurd HA.out (by simp [impl_filled.l0])
  | succ k1 =>
   have H:=HA.out
   clear HA
   simp only [impl_filled.l0] at H
   by_cases c6:x13_1 < a0
   ·rw [if_pos c6] at H
    have c6b0:=decide_eq_true c6
    clear c6
    generalize hy146:(([]:List Int):List Int)=y146 at H
    have Ny146:=am hy146.symm
    clear hy146
    have H':=am H
    clear H
    go_wp2_with (first|((with_reducible refine gD 16 ?_);refine Kd.R_lit (Kd.int .u8) _ 5 D15 (N:=16) D15 (xs:=([]:List Int)) (inner:=[]) (ok:=fun _=>True) (okp:=fun _=>True) D33 D51 (fun _ hk=>hk) trivial (Below.refl _ _) (Nat.le_refl _) D43 ?_;intro v147 w7 ho8 hb hg_ hnew_;clear hg_ hnew_;(first|rw [← Ny146.out] at ho8|(simp only [Int.reduceToNat] at ho8;rw [← Ny146.out] at ho8));replace HO_7:=eS HO_7 (Kd.R_base ho8) hb;have HO148:=am (Kd.R_lower ho8 (pz (yW HB)));replace HB:=yH HB hb;clear hb ho8))
    go_loopg [9,18] k1 (fun kq v9 v18 w'=>∃ (x9_2:List Int) (x18_2:Int),v18 = .int .i64 x18_2∧Aside0 (impl_filled.l1 E kq a1 x7_1 x13_1 x9_2 a0 x13_1 a1 x18_2=some r)∧Aside0 (kq≤k1)∧Aside0 (Kd.S (Kd.slice 5 (Kd.int .u8)) 24 w' w.heap.size (fun k_=>some k_ ≠ (v9:Value).ownBlock) u7 x7_1)∧Aside0 (Kd.R (Kd.int .u8) 5 w' w.heap.size (fun _=>True) v9 x9_2)∧Aside0 (Below w.heap.size w w'))
    case atStart=>exact ⟨(y146),(0),D1,H',⟨Nat.le_refl _⟩,⟨by refine sS ?_;exact Kd.S_mono HO_7.out (fun _ hk=>hk.2)⟩,⟨yR HO148⟩,⟨yW HB⟩⟩
    case round =>
     clear H'
     try clear p2
     try clear c6
     try clear c6b0
     try clear c8
     try clear p2
     obtain ⟨x9_2,x18_2,rfl,HA,HK2,HO_7,HO_9,HB⟩:=hrel
     cases gk with
     | zero=>exact absurd HA.out (by simp [impl_filled.l1])
     | succ k2 =>
      have H:=HA.out
      clear HA
      simp only [impl_filled.l1] at H
      by_cases c9:x18_2 < a1
      ·rw [if_pos c9] at H
       have c9b0:=decide_eq_true c9
       clear c9
       obtain ⟨t149,A10,H⟩:=yo H
       obtain ⟨c11,H⟩:=yi H
       have LMc11:=am c11
       clear c11
       generalize hy150:(x9_2 ++ [t149]:List Int)=y150 at H
       have Ny150:=am hy150.symm
       clear hy150
       have H':=am H
       clear H
       go_wp2_with (first|(go_at_fn g;refine (HX.out _ _ _ _ _ (by (repeat (first|(with_reducible first|exact HB.out|apply pa|apply pb|apply pd)|exact HB.out))) A10.out).mono ?_;rintro e w' ⟨rfl,⟨nd,rfl⟩⟩)|((with_reducible refine gate_builtin (b:=.append) (xs:=#[.tmp 21, .tmp 26]) rfl ?_);at_builtin;refine Kd.R_append (Kd.int .u8) (w0:=w) w.heap.size rfl (.tmp 21) (.tmp 26) 24 5 (.int .u8 0) 1 rfl Try.underlying24 fl_info5 rfl D8 D11 u9 x9_2 t149 [.int .u8 t149] (fun _=>True) (fun _=>False) rfl rfl D79 (fun _ hk=>hk.elim) D41 (by exact (yR HO_9)) D55 D47 (by have:=LMc11.out;omega) ?_;intro v151 w12 ho hb hg hat;rw [← Ny150.out] at ho;have n0_:=am (Kd.S_after (ok:=(fun _=>True)) (by refine sS ?_;exact Kd.S_mono HO_7.out (fun _ hk=>⟨trivial,hk⟩)) hg hat);have n1_:=am (hb);have n2_:=am (ho);clear HO_7 HB HO_9;have HO_7:=n0_;have HB:=n1_;have HO152:=n2_;clear n0_ n1_ n2_ ho hb hg hat))
       go_roundg k2
       case measure=>have:=HK1.out;have:=HK2.out;omega
       case rel=>exact ⟨(y150),(wrap64 (x18_2+1)),D1,H',⟨D78⟩,⟨by refine sS ?_;exact Kd.S_mono HO_7.out (fun _ hk=>hk.2)⟩,⟨yR HO152⟩,⟨yW HB⟩⟩
      rw [if_neg c9] at H
      have c9b0:=decide_eq_false c9
      clear c9
      obtain ⟨c13,H⟩:=yi H
      have LMc13:=am c13
      clear c13
      generalize hy153:(x7_1 ++ [x9_2]:List (List Int))=y153 at H
      have Ny153:=am hy153.symm
      clear hy153
      have H':=am H
      clear H
      obtain ⟨Ao15,co15,eo15⟩:=Kd.R_slice HO_9.out
      subst eo15
      go_wp2_with (first|((with_reducible refine gate_builtin (b:=.append) (xs:=#[.tmp 29, .tmp 31]) rfl ?_);at_builtin;refine Kd.S_append (Kd.slice 5 (Kd.int .u8)) (w0:=w) w.heap.size rfl (.tmp 29) (.tmp 31) 25 24 (.slice none 0 0) 24 rfl Try.underlying25 fl_info32 rfl D8 D11 u7 x7_1 x9_2 [.slice Ao15 x9_2.length co15] (fun _=>True) (fun k_=>some k_=(.slice Ao15 x9_2.length co15:Value).ownBlock) rfl rfl (by exact Kd.M_row (Kd.R_mono (Kd.R_tight rfl (Kd.R_mono (ok':=fun k_=>((fun _=>True)) k_∧some k_ ≠ (u7:Value).ownBlock) (Kd.R_apart' (HO_9.out) (Kd.S_typed HO_7.out) D8) (fun k_ hk=>⟨trivial,hk.2⟩))) (fun _ h_=>h_))) (fun k_ hk_=>((Kd.R_mono (ok':=fun k_=>((fun _=>True)) k_∧some k_ ≠ (u7:Value).ownBlock) (Kd.R_apart' (HO_9.out) (Kd.S_typed HO_7.out) D8) (fun k_ hk=>⟨trivial,hk.2⟩))).1 k_ hk_.symm) D41 (by exact (by refine sS ?_;exact Kd.S_mono HO_7.out (fun k_ hk=>⟨trivial,fun e_=>hk e_⟩))) D55 D47 (by have:=LMc13.out;omega) ?_;intro v154 w14 ho hb hg hat;rw [← Ny153.out] at ho;have n0_:=am (hb);have n1_:=am (ho);clear HB HO_7 HO_9;have HB:=n0_;have HO155:=n1_;clear n0_ n1_ ho hb hg hat))
      go_roundg k2
      case measure=>have:=HK1.out;have:=HK2.out;omega
      case rel=>exact ⟨(y153),(wrap64 (x13_1+1)),D1,H',⟨D78⟩,⟨yS HO155⟩,⟨yW HB⟩⟩
   rw [if_neg c6] at H
   have c6b0:=decide_eq_false c6
   clear c6
   obtain rfl:=Option.some.inj H
   go_wp2
   go_ret
   exact ⟨_,D2,yS HO_7,yW HB⟩
section
section
open Go.Proofs.Yteflgifmdojahaa.KitR
theorem pl_add (a:Addr) (n:Nat):(a.add n).block=a.block:=by first | rfl | (cases a;rfl) | (unfold Addr.add;rfl) | (unfold Addr.add;split <;> rfl) | simp
theorem pl_infoI:(Try.prog.info? 3).map (fun i=>(i.zero,i.size,i.bytes))=some (some (.int .i64 0),1,8):=by kernel_rfl
theorem pl_infoS:(Try.prog.info? 62).map (fun i=>(i.zero,i.size,i.bytes))=some (some (.slice none 0 0),1,24):=by kernel_rfl
def rd_II (xs:List (List Int)) (i:Int):(List Int):=xs.getD i.toNat ([]:List Int)
theorem at_II {w:World} {A:Option Addr} {n:Nat} {xs:List (List Int)} (h:Kd.C (Kd.slice 3 (Kd.int .i64)) w A n xs) (i:Int) (h0:0≤i) (h1:i < n):∃ ad A0 c0,A=some ad∧w.cell? (ad.add i.toNat)=some (.slice A0 (rd_II xs i).length c0)∧(rd_II xs i).length≤c0∧(Kd.int .i64).C w A0 (rd_II xs i).length (rd_II xs i):=by
 obtain ⟨ad,c,e,_,hK,hc0⟩:=Kd.C_get h ([]:List Int) i h0 h1
 have hc:∀ j u,c[j]? = some u→w.cell? (ad.add (i.toNat*1+j))=some u:=hc0
 obtain ⟨A0,c0,rfl,l0,g0⟩:=hK
 exact ⟨ad,A0,c0,e,by have hq:=hc 0 _ rfl;rwa [Nat.mul_one,Nat.add_zero] at hq,l0,g0⟩
mutual
def impl_Msr_places.l0:Nat→Int→List (List Int)→Int→Int→Option ((List (List Int)))
 | 0,_,_,_,_=>none
 | k+1,x3,x4,x14,x15=>if x15 < x14 then (if 0≤x3 then (if (x3:Int).toNat≤35184372088832 then (if x4.length < 5864062014805 then (impl_Msr_places.l0 k x3 (x4 ++ [(List.replicate (x3:Int).toNat 0)]) x14 (wrap64 (x15+1))) else (none)) else (none)) else (none)) else ((some (([0,x3]:List Int):List Int)).bind fun y159=>(impl_Msr_places.l1 k x3 x4 0 y159 (y159.length:Int) 0))
def impl_Msr_places.l1:Nat→Int→List (List Int)→Int→List Int→Int→Int→Option ((List (List Int)))
 | 0,_,_,_,_,_,_=>none
 | k+1,x3,x4,x5,x24,x25,x26=>if x26 < x25 then (if 0≤x26 then (if x26 < (x24.length:Int) then (impl_Msr_places.l2 k x3 x4 x5 (rd x24 x26) x24 x25 x26 x3 0) else (none)) else (none)) else (some x4)
def impl_Msr_places.l2:Nat→Int→List (List Int)→Int→Int→List Int→Int→Int→Int→Int→Option ((List (List Int)))
 | 0,_,_,_,_,_,_,_,_,_=>none
 | k+1,x3,x4,x5,x7,x24,x25,x26,x30,x31=>if x31 < x30 then (impl_Msr_places.l3 k x3 x4 x5 x7 x31 x31 x24 x25 x26 x30 x31) else (impl_Msr_places.l1 k x3 x4 x5 x24 x25 (wrap64 (x26+1)))
def impl_Msr_places.l3:Nat→Int→List (List Int)→Int→Int→Int→Int→List Int→Int→Int→Int→Int→Option ((List (List Int)))
 | 0,_,_,_,_,_,_,_,_,_,_,_=>none
 | k+1,x3,x4,x5,x7,x8,x9,x24,x25,x26,x30,x31=>if x9 < x3 then (if 0≤(wrap64 (x7+x8)) then (if (wrap64 (x7+x8)) < (x4.length:Int) then (if 0≤x9 then (if x9 < ((rd_II x4 (wrap64 (x7+x8))).length:Int) then ((some (x4.set ((wrap64 (x7+x8)):Int).toNat ((rd_II x4 (wrap64 (x7+x8))).set (x9:Int).toNat x5):List (List Int))).bind fun y166=>(if 0≤(wrap64 (x7+x9)) then (if (wrap64 (x7+x9)) < (x4.length:Int) then (if 0≤x8 then (if x8 < ((rd_II y166 (wrap64 (x7+x9))).length:Int) then (impl_Msr_places.l3 k x3 (y166.set ((wrap64 (x7+x9)):Int).toNat ((rd_II y166 (wrap64 (x7+x9))).set (x8:Int).toNat x5)) (wrap64 (x5+1)) x7 x8 (wrap64 (x9+1)) x24 x25 x26 x30 x31) else (none)) else (none)) else (none)) else (none))) else (none)) else (none)) else (none)) else (none)) else (impl_Msr_places.l2 k x3 x4 x5 x7 x24 x25 x26 x30 (wrap64 (x31+1)))
end
def impl_Msr_places.f (k:Nat) (a0_0:Int) (a0_1:Int):Option ((List (List Int))):=(impl_Msr_alpha.f a0_0 a0_1).bind fun t149=>(impl_Msr_places.l0 k t149 (([]:List (List Int))) (wrap64 (2*t149)) 0)
theorem impl_Msr_places.mono_l:∀ k,(∀ y0 y1 y2 y3,LeO (impl_Msr_places.l0 k y0 y1 y2 y3) (impl_Msr_places.l0 (k+1) y0 y1 y2 y3))∧(∀ y0 y1 y2 y3 y4 y5,LeO (impl_Msr_places.l1 k y0 y1 y2 y3 y4 y5) (impl_Msr_places.l1 (k+1) y0 y1 y2 y3 y4 y5))∧(∀ y0 y1 y2 y3 y4 y5 y6 y7 y8,LeO (impl_Msr_places.l2 k y0 y1 y2 y3 y4 y5 y6 y7 y8) (impl_Msr_places.l2 (k+1) y0 y1 y2 y3 y4 y5 y6 y7 y8))∧(∀ y0 y1 y2 y3 y4 y5 y6 y7 y8 y9 y10,LeO (impl_Msr_places.l3 k y0 y1 y2 y3 y4 y5 y6 y7 y8 y9 y10) (impl_Msr_places.l3 (k+1) y0 y1 y2 y3 y4 y5 y6 y7 y8 y9 y10))
 | 0=>⟨fun _ _ _ _ r h=>by simp [impl_Msr_places.l0] at h,fun _ _ _ _ _ _ r h=>by simp [impl_Msr_places.l1] at h,fun _ _ _ _ _ _ _ _ _ r h=>by simp [impl_Msr_places.l2] at h,fun _ _ _ _ _ _ _ _ _ _ _ r h=>by simp [impl_Msr_places.l3] at h⟩
 | k+1=>by
  obtain ⟨ih0,ih1,ih2,ih3⟩:=impl_Msr_places.mono_l k
  refine ⟨?_,?_,?_,?_⟩
  ·intro y0 y1 y2 y3
   unfold impl_Msr_places.l0
   exact mm
  ·intro y0 y1 y2 y3 y4 y5
   unfold impl_Msr_places.l1
   exact mm
  ·intro y0 y1 y2 y3 y4 y5 y6 y7 y8
   unfold impl_Msr_places.l2
   exact mm
  intro y0 y1 y2 y3 y4 y5 y6 y7 y8 y9 y10
  unfold impl_Msr_places.l3
  exact mm
theorem impl_Msr_places.mono:∀ a0 a1 k,LeO (impl_Msr_places.f k a0 a1) (impl_Msr_places.f (k+1) a0 a1):=by
 intro a0 a1 k
 obtain ⟨ih0,ih1,ih2,ih3⟩:=impl_Msr_places.mono_l k
 unfold impl_Msr_places.f
 exact mm
theorem impl_Msr_places.calls (k:Nat) (a0_0:Int) (a0_1:Int) (r:List (List Int)) (w:World) (h:impl_Msr_places.f k a0_0 a0_1=some r) :
  Calls Try.prog 108 #[.agg #[.int .i64 a0_0, .int .i64 a0_1]] w fun e w'=>∃ v0_:Value,e = .returned (v0_)∧Kd.S (Kd.slice 3 (Kd.int .i64)) 62 w' w.heap.size (fun _=>True) v0_ r∧Below w.heap.size w w':=by
 have hu30:=Try.underlying30
 have HB:=am (Below.refl w.heap.size w)
 have H:=h
 unfold impl_Msr_places.f at H
 clear h
 obtain ⟨t149,A2,H⟩:=yo H
 generalize hy150:(([]:List (List Int)):List (List Int))=y150 at H
 have Ny150:=am hy150.symm
 clear hy150
 have H':=am H
 clear H
 go_enter Try.func108,Try.ntmps108
 go_wp2_with (first|((with_reducible refine gD 1 ?_);refine gB (cs:=#[.int .i64 a0_0, .int .i64 a0_1]) 30 ?_;intro gb148 hg w3 hbox hb;have BK148:=am (hbox);have GW148:=ye HB hg;replace HB:=yH HB hb;have GE148:=GW148;clear hb hbox hg;obtain ⟨hcz4_0,hcz4_1,hfz4_0,hfz4_1⟩:=yk2 BK148)|((with_reducible refine gC 103 ?_);refine gM (some 11) Try.func103 (args:=#[.agg #[.int .i64 a0_0, .int .i64 a0_1]]) (impl_Msr_alpha.calls a0_0 a0_1 t149 _ A2.out) ?_;rintro e w5 ⟨rfl,hb⟩;refine ⟨_,rfl,?_⟩;replace BK148:=yb BK148 hb;replace HB:=yH HB hb;clear hb)|((with_reducible refine gD 12 ?_);refine Kd.S_lit (Kd.slice 3 (Kd.int .i64)) _ 62 D15 (N:=12) D15 (xs:=([]:List (List Int))) (inner:=[]) (ok:=fun _=>True) (okp:=fun _=>True) D33 D51 (fun _ hk=>hk) trivial (Below.refl _ _) (Nat.le_refl _) D43 ?_;intro v151 w6 ho7 hb hg_ hnew_;clear hg_ hnew_;(first|rw [← Ny150.out] at ho7|(simp only [Int.reduceToNat] at ho7;rw [← Ny150.out] at ho7));have HO152:=am (Kd.S_lower ho7 (pz (yW HB)));replace BK148:=yb BK148 hb;replace HB:=yH HB hb;clear hb ho7))
 go_loopg [4,15] k (fun kq v4 v15 w'=>∃ (x4_1:List (List Int)) (x15_1:Int),v15 = .int .i64 x15_1∧Aside0 (impl_Msr_places.l0 kq t149 x4_1 (wrap64 (2*t149)) x15_1=some r)∧Aside0 (kq≤k)∧Aside0 (Kd.S (Kd.slice 3 (Kd.int .i64)) 62 w' w.heap.size (fun _=>True) v4 x4_1)∧Aside0 (w'.heap[gb148]? = some (.cells #[.int .i64 a0_0, .int .i64 a0_1] 30 (0,0)))∧Aside0 (Below w.heap.size w w'))
 case atStart=>exact ⟨(y150),(0),D1,H',⟨Nat.le_refl _⟩,⟨yS HO152⟩,⟨yB BK148⟩,⟨yW HB⟩⟩
 case round =>
  clear H'
  try clear c1
  try clear p2
  try clear p6
  try clear hcz4_0
  try clear hcz4_1
  try clear hfz4_0
  try clear hfz4_1
  obtain ⟨x4_1,x15_1,rfl,HA,HK1,HO_4,BK148,HB⟩:=hrel
  cases gk with
  | zero=>exact absurd HA.out (by simp [impl_Msr_places.l0])
  | succ k1 =>
   have H:=HA.out
   clear HA
   simp only [impl_Msr_places.l0] at H
   by_cases c8:x15_1 < (wrap64 (2*t149))
   ·rw [if_pos c8] at H
    have c8b0:=decide_eq_true c8
    clear c8
    obtain ⟨c9,H⟩:=yi H
    have c9b0:=eq_true c9
    have c9b1:decide (0≤t149)=true:=decide_eq_true c9
    clear c9
    obtain ⟨c10,H⟩:=yi H
    have c10b0:=eq_true c10
    have c10b1:decide ((t149:Int).toNat≤35184372088832)=true:=decide_eq_true c10
    clear c10
    generalize hy153:(List.replicate (t149:Int).toNat 0:List Int)=y153 at H
    have Ny153:=am hy153.symm
    clear hy153
    obtain ⟨c11,H⟩:=yi H
    have LMc11:=am c11
    clear c11
    generalize hy156:(x4_1 ++ [y153]:List (List Int))=y156 at H
    have Ny156:=am hy156.symm
    clear hy156
    have H':=am H
    clear H
    go_wp2_with (first|((with_reducible refine gD 19 ?_);refine Kd.R_make (Kd.int .i64) _ 3 rfl (N:=19) rfl 62 _ _ rfl t149 rfl rfl Try.underlying62 (.int .i64 0) 8 pl_infoI rfl D8 D11 0 (ok:=fun _=>True) (okp:=fun _=>True) rfl (fun _ hk=>hk) trivial (od D0) (Nat.le_trans (Nat.mul_le_mul_right _ (od D0:t149.toNat≤35184372088832)) D11) (Below.refl _ _) (Nat.le_refl _) ?_;intro v154 w12 ho13 hb hg_ hnew_;clear hg_ hnew_;(first|rw [← Ny153.out] at ho13|(simp only [Int.reduceToNat] at ho13;rw [← Ny153.out] at ho13));replace HO_4:=eS HO_4 (Kd.R_base ho13) hb;have HO155:=am (Kd.R_lower ho13 (pz (yW HB)));replace BK148:=yb BK148 hb;replace HB:=yH HB hb;clear hb ho13;obtain ⟨Ao15,co15,eo15⟩:=Kd.R_slice HO155.out;subst eo15)|((with_reducible refine gate_builtin (b:=.append) (xs:=#[.tmp 17, .tmp 20]) rfl ?_);at_builtin;refine Kd.S_append (Kd.slice 3 (Kd.int .i64)) (w0:=w) w.heap.size rfl (.tmp 17) (.tmp 20) 135 62 (.slice none 0 0) 24 rfl Try.underlying135 pl_infoS rfl D8 D11 u4 x4_1 y153 [.slice Ao15 y153.length co15] (fun _=>True) (fun k_=>some k_=(.slice Ao15 y153.length co15:Value).ownBlock) rfl rfl (by exact Kd.M_row (Kd.R_mono (Kd.R_tight rfl (Kd.R_mono (ok':=fun k_=>((fun _=>True)) k_∧some k_ ≠ (u4:Value).ownBlock) (Kd.R_apart' (HO155.out) (Kd.S_typed HO_4.out) D8) (fun k_ hk=>⟨trivial,hk.2⟩))) (fun _ h_=>h_))) (fun k_ hk_=>((Kd.R_mono (ok':=fun k_=>((fun _=>True)) k_∧some k_ ≠ (u4:Value).ownBlock) (Kd.R_apart' (HO155.out) (Kd.S_typed HO_4.out) D8) (fun k_ hk=>⟨trivial,hk.2⟩))).1 k_ hk_.symm) D41 (by exact (by refine sS ?_;exact Kd.S_mono HO_4.out (fun k_ hk=>⟨trivial,fun e_=>hk.2 e_⟩))) D55 D47 (by have:=LMc11.out;omega) ?_;intro v157 w14 ho hb hg hat;rw [← Ny156.out] at ho;have n0_:=am (blk_grown (g:=gb148) (o:=.cells #[.int .i64 a0_0, .int .i64 a0_1] 30 (0,0)) (yB BK148) hg (Kd.S_ne HO_4.out BK148.out D8));have n1_:=am (hb);have n2_:=am (ho);clear BK148 HB HO_4 HO155;have BK148:=n0_;have HB:=n1_;have HO158:=n2_;clear n0_ n1_ n2_ ho hb hg hat))
    go_roundg k1
    case measure=>have:=HK1.out;omega
    case rel=>exact ⟨(y156),(wrap64 (x15_1+1)),D1,H',⟨D34⟩,⟨yS HO158⟩,⟨yB BK148⟩,⟨yW HB⟩⟩
   rw [if_neg c8] at H
   have c8b0:=decide_eq_false c8
   clear c8
   obtain ⟨y159,hy159,H⟩:=ys H
   have Ny159:=am hy159
   clear hy159
   have H':=am H
   clear H
   go_wp2_with (first|((with_reducible refine gD 24 ?_);refine Kd.R_lit (Kd.int .i64) _ 3 D15 (N:=24) D15 (xs:=([0,t149]:List Int)) (inner:=[.int .i64 0, .int .i64 t149]) (ok:=fun _=>True) (okp:=fun _=>True) D33 (by exact (Reps.one (show Kd.M (Kd.int .i64) _ _ _ 0 [.int .i64 0] from rfl) (Reps.one (show Kd.M (Kd.int .i64) _ _ _ t149 [.int .i64 t149] from rfl) (Reps.none _ _)))) (fun _ hk=>hk) trivial (Below.refl _ _) (Nat.le_refl _) D43 ?_;intro v160 w16 ho17 hb hg_ hnew_;clear hg_ hnew_;(first|rw [← Ny159.out] at ho17|(simp only [Int.reduceToNat] at ho17;rw [← Ny159.out] at ho17));replace HO_4:=eS HO_4 (Kd.R_base ho17) hb;have HO161:=am (Kd.R_lower ho17 (pz (yW HB)));replace BK148:=yb BK148 hb;replace HB:=yH HB hb;clear hb ho17;obtain ⟨Ao18,co18,eo18⟩:=Kd.R_slice HO161.out;subst eo18))
   go_loopg [5,26] k1 (fun kq v5 v26 w'=>∃ (x4_2:List (List Int)) (x5_2:Int) (x24_2:List Int) (x26_2:Int),v5 = .int .i64 x5_2∧v26 = .int .i64 x26_2∧Aside0 (impl_Msr_places.l1 kq t149 x4_2 x5_2 x24_2 (y159.length:Int) x26_2=some r)∧Aside0 (kq≤k1)∧Aside0 (Kd.S (Kd.slice 3 (Kd.int .i64)) 62 w' w.heap.size (fun k_=>some k_ ≠ ((.slice Ao18 y159.length co18):Value).ownBlock) u4 x4_2)∧Aside0 (Kd.R (Kd.int .i64) 3 w' w.heap.size (fun _=>True) (.slice Ao18 y159.length co18) x24_2)∧Aside0 (w'.heap[gb148]? = some (.cells #[.int .i64 a0_0, .int .i64 a0_1] 30 (0,0)))∧Aside0 (Below w.heap.size w w'))
   case atStart=>exact ⟨(x4_1),(0),(y159),(0),D1,D1,H',⟨Nat.le_refl _⟩,⟨by refine sS ?_;exact Kd.S_mono HO_4.out (fun _ hk=>hk.2)⟩,⟨yR HO161⟩,⟨yB BK148⟩,⟨yW HB⟩⟩
   case round =>
    clear H'
    try clear c1
    try clear p2
    try clear p6
    try clear c8
    try clear c8b0
    try clear c9
    try clear c9b0
    try clear c9b1
    try clear c10
    try clear c10b0
    try clear c10b1
    try clear c11
    try clear hcz4_0
    try clear hcz4_1
    try clear hfz4_0
    try clear hfz4_1
    try clear p2
    try clear p6
    obtain ⟨x4_2,x5_2,x24_2,x26_2,rfl,rfl,HA,HK2,HO_4,HO_24,BK148,HB⟩:=hrel
    have hl24_2:=(Kd.R_reads' HO_24.out).1
    rw [hl24_2] at HO_24
    (try simp only [hl24_2])
    (try simp only [hl24_2] at BK148)
    (try simp only [hl24_2] at HO_4)
    cases gk with
    | zero=>exact absurd HA.out (by simp [impl_Msr_places.l1])
    | succ k2 =>
     have H:=HA.out
     clear HA
     simp only [impl_Msr_places.l1] at H
     by_cases c19:x26_2 < (y159.length:Int)
     ·rw [if_pos c19] at H
      have c19b0:=decide_eq_true c19
      clear c19
      obtain ⟨c20,H⟩:=yi H
      have c20b0:=decide_eq_true c20
      clear c20
      obtain ⟨c21,H⟩:=yi H
      have c21b0:=decide_eq_true c21
      clear c21
      have H':=am H
      clear H
      have p162:0≤(x26_2:Int):=od D0
      have q162:x26_2 < (x24_2.length:Int):=od D0
      obtain ⟨ad162,e162,hx162_0⟩:=Kd.at_int (Kd.R_reads' HO_24.out).2.2 x26_2 p162 q162
      cases e162
      replace p162:=eq_true p162
      replace q162:=eq_true q162
      go_wp2
      go_loopg [5,31] k2 (fun kq v5 v31 w'=>∃ (x4_3:List (List Int)) (x5_3:Int) (x24_3:List Int) (x31_3:Int),v5 = .int .i64 x5_3∧v31 = .int .i64 x31_3∧Aside0 (impl_Msr_places.l2 kq t149 x4_3 x5_3 (rd x24_2 x26_2) x24_3 (y159.length:Int) x26_2 t149 x31_3=some r)∧Aside0 (kq≤k2)∧Aside0 (Kd.S (Kd.slice 3 (Kd.int .i64)) 62 w' w.heap.size (fun k_=>some k_ ≠ ((.slice (some ad162) x24_2.length co18):Value).ownBlock) u4 x4_3)∧Aside0 (Kd.R (Kd.int .i64) 3 w' w.heap.size (fun _=>True) (.slice (some ad162) x24_2.length co18) x24_3)∧Aside0 (w'.heap[gb148]? = some (.cells #[.int .i64 a0_0, .int .i64 a0_1] 30 (0,0)))∧Aside0 (Below w.heap.size w w'))
      case atStart=>exact ⟨(x4_2),(x5_2),(x24_2),(0),D1,D1,H',⟨Nat.le_refl _⟩,⟨by (try simp only [hl24_2]);refine sS ?_;exact HO_4.out⟩,⟨by (try simp only [hl24_2]);refine sR ?_;exact HO_24.out⟩,⟨by (try simp only [hl24_2]);exact yB BK148⟩,⟨yW HB⟩⟩
      case round =>
       clear H'
       try clear c1
       try clear p1
       try clear q1
       try clear hx1
       try clear c2
       try clear p2
       try clear p6
       try clear c8
       try clear c8b0
       try clear c9
       try clear c9b0
       try clear c9b1
       try clear c10
       try clear c10b0
       try clear c10b1
       try clear c11
       try clear p16
       try clear q16
       try clear hx16
       try clear c19
       try clear c19b0
       try clear c20
       try clear c20b0
       try clear c21
       try clear c21b0
       try clear hcz4_0
       try clear hcz4_1
       try clear hfz4_0
       try clear hfz4_1
       try clear hx162_0
       try clear p162
       try clear p2
       try clear p6
       try clear q162
       obtain ⟨x4_3,x5_3,x24_3,x31_3,rfl,rfl,HA,HK3,HO_4,HO_24,BK148,HB⟩:=hrel
       have hl24_3:=(Kd.R_reads' HO_24.out).1
       rw [hl24_3] at HO_24
       (try simp only [hl24_3])
       (try simp only [hl24_3] at BK148)
       (try simp only [hl24_3] at HO_4)
       cases gk with
       | zero=>exact absurd HA.out (by simp [impl_Msr_places.l2])
       | succ k3 =>
        have H:=HA.out
        clear HA
        simp only [impl_Msr_places.l2] at H
        by_cases c22:x31_3 < t149
        ·rw [if_pos c22] at H
         have c22b0:=decide_eq_true c22
         clear c22
         have H':=am H
         clear H
         go_wp2
         go_loopg [5,9] k3 (fun kq v5 v9 w'=>∃ (x4_4:List (List Int)) (x5_4:Int) (x9_4:Int) (x24_4:List Int),v5 = .int .i64 x5_4∧v9 = .int .i64 x9_4∧Aside0 (impl_Msr_places.l3 kq t149 x4_4 x5_4 (rd x24_2 x26_2) x31_3 x9_4 x24_4 (y159.length:Int) x26_2 t149 x31_3=some r)∧Aside0 (kq≤k3)∧Aside0 (Kd.S (Kd.slice 3 (Kd.int .i64)) 62 w' w.heap.size (fun k_=>some k_ ≠ ((.slice (some ad162) x24_3.length co18):Value).ownBlock) u4 x4_4)∧Aside0 (Kd.R (Kd.int .i64) 3 w' w.heap.size (fun _=>True) (.slice (some ad162) x24_3.length co18) x24_4)∧Aside0 (w'.heap[gb148]? = some (.cells #[.int .i64 a0_0, .int .i64 a0_1] 30 (0,0)))∧Aside0 (Below w.heap.size w w'))
         case atStart=>exact ⟨(x4_3),(x5_3),(x31_3),(x24_3),D1,D1,H',⟨Nat.le_refl _⟩,⟨by (try simp only [hl24_2]);(try simp only [hl24_3]);refine sS ?_;exact HO_4.out⟩,⟨by (try simp only [hl24_2]);(try simp only [hl24_3]);refine sR ?_;exact HO_24.out⟩,⟨by (try simp only [hl24_2]);(try simp only [hl24_3]);exact yB BK148⟩,⟨yW HB⟩⟩
         case round =>
          clear H'
          try clear c1
          try clear p1
          try clear q1
          try clear hx1
          try clear c2
          try clear p2
          try clear p6
          try clear c8
          try clear c8b0
          try clear c9
          try clear c9b0
          try clear c9b1
          try clear c10
          try clear c10b0
          try clear c10b1
          try clear c11
          try clear p16
          try clear q16
          try clear hx16
          try clear c19
          try clear c19b0
          try clear c20
          try clear c20b0
          try clear c21
          try clear c21b0
          try clear c22
          try clear c22b0
          try clear hcz4_0
          try clear hcz4_1
          try clear hfz4_0
          try clear hfz4_1
          try clear hx162_0
          try clear p1
          try clear p16
          try clear p162
          try clear p2
          try clear p6
          try clear q1
          try clear q16
          try clear q162
          obtain ⟨x4_4,x5_4,x9_4,x24_4,rfl,rfl,HA,HK4,HO_4,HO_24,BK148,HB⟩:=hrel
          have hl24_4:=(Kd.R_reads' HO_24.out).1
          rw [hl24_4] at HO_24
          (try simp only [hl24_4])
          (try simp only [hl24_4] at BK148)
          (try simp only [hl24_4] at HO_4)
          cases gk with
          | zero=>exact absurd HA.out (by simp [impl_Msr_places.l3])
          | succ k4 =>
           have H:=HA.out
           clear HA
           simp only [impl_Msr_places.l3] at H
           by_cases c23:x9_4 < t149
           ·rw [if_pos c23] at H
            have c23b0:=decide_eq_true c23
            clear c23
            generalize hji24:(wrap64 ((rd x24_2 x26_2)+x31_3))=ji24 at H
            have hji24w:(IntKind.i64.wrap ((rd x24_2 x26_2)+x31_3))=ji24:=(i64_w _).trans hji24
            obtain ⟨c25,H⟩:=yi H
            have c25b0:=decide_eq_true c25
            clear c25
            obtain ⟨c26,H⟩:=yi H
            have c26b0:=decide_eq_true c26
            clear c26
            obtain ⟨c27,H⟩:=yi H
            have c27b0:=decide_eq_true c27
            clear c27
            obtain ⟨c28,H⟩:=yi H
            have c28b0:=decide_eq_true c28
            clear c28
            generalize hy164:((rd_II x4_4 (ji24)).set (x9_4:Int).toNat x5_4:List Int)=y164 at H
            have Ny164:=am hy164.symm
            clear hy164
            obtain ⟨y166,hy166,H⟩:=ys H
            have Ny166:=am hy166
            clear hy166
            generalize hji30:(wrap64 ((rd x24_2 x26_2)+x9_4))=ji30 at H
            have hji30w:(IntKind.i64.wrap ((rd x24_2 x26_2)+x9_4))=ji30:=(i64_w _).trans hji30
            obtain ⟨c31,H⟩:=yi H
            have c31b0:=decide_eq_true c31
            clear c31
            obtain ⟨c32,H⟩:=yi H
            have c32b0:=decide_eq_true c32
            clear c32
            obtain ⟨c33,H⟩:=yi H
            have c33b0:=decide_eq_true c33
            clear c33
            obtain ⟨c34,H⟩:=yi H
            have c34b0:=decide_eq_true c34
            clear c34
            generalize hy168:((rd_II y166 (ji30)).set (x31_3:Int).toNat x5_4:List Int)=y168 at H
            have Ny168:=am hy168.symm
            clear hy168
            generalize hy170:(y166.set ((ji30):Int).toNat y168:List (List Int))=y170 at H
            have Ny170:=am hy170.symm
            clear hy170
            have H':=am H
            clear H
            try go_wp2
            replace HO_4:=am (Kd.S_drew HO_4.out)
            replace HO_24:=am (Kd.R_drew HO_24.out)
            replace BK148:=am (qd BK148.out)
            replace HB:=am (pd HB.out)
            obtain ⟨Ao37,co37,eo37⟩:=Kd.S_slice HO_4.out
            (first|subst eo37|(injection eo37 with f1_ f2_ f3_;have f4_:=f1_.symm;have f5_:=f3_.symm;clear f1_ f2_ f3_;subst f4_;subst f5_))
            have p163:0≤((ji24):Int):=od D0
            have q163:(ji24) < (x4_4.length:Int):=od D0
            obtain ⟨ad163,A163_0,c163_0,e163,hx163_0,hl163_0,hi163_0⟩:=at_II (Kd.S_reads' HO_4.out).2.2 (ji24) p163 q163
            cases e163
            obtain ⟨ce163,hce163,hMe163,hcc163⟩:=Kd.S_get HO_4.out [] (ji24) p163 (by first|exact q163|exact od D0|(have e_:=(Kd.S_reads' HO_4.out).1;omega))
            obtain ⟨ve163_0,rfl,ge163_0⟩:=hMe163
            have hv163_0:=hcc163 0 _ rfl
            rw [Nat.add_zero,show ((Kd.slice 3 (Kd.int .i64))).sz=1 from rfl,Nat.mul_one] at hv163_0
            replace hv163_0:=Option.some.inj (hv163_0.symm.trans hx163_0)
            rw [hv163_0] at ge163_0
            have HL163_0:=am (show Kd.R (Kd.int .i64) 3 _ _ _ _ (rd_II x4_4 (ji24)) from ge163_0)
            clear hv163_0 ge163_0
            have HX163_0:=am hx163_0
            clear hcc163 hce163
            have HR163_0:=am hi163_0
            have HC163_0:=am hl163_0
            clear hi163_0 hl163_0
            replace p163:=eq_true p163
            replace q163:=eq_true q163
            have p29:0≤(x9_4:Int):=od D0
            have q29:(x9_4:Int) < (((rd_II x4_4 (ji24)).length:Int):Int):=od D0
            obtain ⟨go29,co29,eo29,gb29,gl29,cl29,HG29⟩:=Kd.R_form HL163_0.out D11
            (first|cases eo29|(injection eo29 with ea_ en_ ec_;(first|subst ea_|(injection ea_ with ea_;subst ea_));subst ec_;clear en_))
            have GB29:=am gb29
            have GG29:=am HG29
            clear gb29 gl29 HG29
            obtain ⟨hx29_0,hf29_0⟩:=Kd.R_celln 0 HL163_0.out (x9_4:Int) p29 q29
            replace p29:=eq_true p29
            replace q29:=eq_true q29
            have hq38:((ji24):Int) < (x4_4.length:Int):=(by have h_:((ji24):Int) < ((x4_4.length:Int):Int):=od D0;first|exact h_|(have e_:=(Kd.S_reads' HO_4.out).1;omega)|simpa only [List.length_set,List.length_set] using h_)
            obtain ⟨oki38,ce38,hcl38,hM38,hcc38,hok38,hbk38⟩:=Kd.S_borrow HO_4.out [] ((ji24):Int) (od D0) hq38
            obtain ⟨ve38_0,rfl,ge38_0⟩:=hM38
            have hv38:=hcc38 0 _ rfl
            rw [Nat.add_zero,show ((Kd.slice 3 (Kd.int .i64))).sz=1 from rfl,Nat.mul_one] at hv38
            replace hv38:=Option.some.inj (hv38.symm.trans HX163_0.out)
            subst hv38
            clear hcc38 hcl38
            replace ge38_0:=(show Kd.R (Kd.int .i64) 3 _ _ _ _ (rd_II x4_4 (ji24)) from ge38_0)
            have HP38:=Kd.R_putg ge38_0 (x9_4:Int) x5_4
            rw [← Ny164.out] at HP38
            have HS38:=hbk38 HP38.2 (fun k_ e_=>by injection e_ with e_;subst e_;exact ge38_0.1 _ rfl) (x':=y164) (Kd.M_row HP38.1)
            rw [← Ny166.out] at HS38
            have HQ38:=am HS38
            have hne_:go29 ≠ ad163.block:=fun e_=>(hok38 go29 (ge38_0.1 _ rfl)).2 D97
            clear HP38 HS38 hbk38 hok38
            have p2_:0≤((ji30):Int):=od D0
            have q2_:(ji30) < (x4_4.length:Int):=od D0
            obtain ⟨ad2_,A2_,c2_,e2_,hx2_,_,_⟩:=at_II (Kd.S_reads' HO_4.out).2.2 (ji30) p2_ q2_
            obtain rfl:ad163=ad2_:=(by injection e2_)
            obtain ⟨N2_,hN2_⟩:∃ N_:Nat,N_=(rd_II x4_4 (ji30)).length:=⟨_,rfl⟩
            rw [← hN2_] at hx2_
            clear e2_ hN2_
            replace p2_:=eq_true p2_
            replace q2_:=eq_true q2_
            refine KitR.rS (n:=20) (B:=[0,0,0,0,0,0,0,0,0,0,0,0,0,0,0,0,0,86143,0,524287]) (S:=fun w'=>w'.cell? (ad163.add ((ji24)).toNat)=some (.slice (some ⟨go29,0,none⟩) (rd_II x4_4 (ji24)).length c163_0)∧w'.cell? (ad163.add ((ji30)).toNat)=some (.slice A2_ N2_ c2_)) (ds:=[17,19]) [(0,40),(1,41),(2,42),(3,43),(4,44),(6,46),(7,47),(8,48),(9,49),(10,50),(11,51),(13,53),(14,54),(15,55),(5,45),(12,52),(16,56),(17,0),(18,57),(19,0)] D5 rfl rfl D5 ⟨hx163_0,hx2_⟩ (fun hHeld HT_ HW_=>?_)
            generalize wr.drew=w36 at HO_4 HO_24 BK148 HB GG29 HL163_0 HQ38 HR163_0 HX163_0 hf29_0 hx163_0 hx29_0 hHeld hx2_ ⊢
            refine KitR.rR ?_
            refine KitR.rL (N:=none) HT_ rfl rfl D5 D8 (fun K hK=>?_)
            refine skip_ (w1:=?_) D15 rfl ?_ ?_
            rotate_left
            ·go_simp
             rfl
            refine hK.out _ _ ?_
            clear hK K hHeld
            have n0_:Aside0 (Kd.S (Kd.slice 3 (Kd.int .i64)) 62 (w36.setCell ⟨go29,(x9_4:Int).toNat,none⟩ (.int .i64 x5_4)) w.heap.size (fun k_=>some k_ ≠ (.slice (some ad162) x24_4.length co18:Value).ownBlock) (.slice (some ad163) x4_4.length co37) y166):=⟨yS HQ38⟩
            have n1_:Aside0 (Kd.R (Kd.int .i64) 3 (w36.setCell ⟨go29,(x9_4:Int).toNat,none⟩ (.int .i64 x5_4)) w.heap.size (fun _=>True) (.slice (some ad162) x24_4.length co18) x24_4):=⟨by refine sR ?_;exact Kd.R_mono (Kd.R_far (p:=⟨go29,(x9_4:Int).toNat,none⟩) (Kd.R_far1 HO_24.out rfl ((HL163_0.out.1 _ rfl).1)) (fun _ hk=>hk.2) (.int .i64 x5_4)) (fun _ hk=>trivial)⟩
            have n2_:Aside0 ((w36.setCell ⟨go29,(x9_4:Int).toNat,none⟩ (.int .i64 x5_4)).heap[gb148]? = some (.cells #[.int .i64 a0_0, .int .i64 a0_1] 30 (0,0))):=⟨by refine sB ?_;refine blk_far ?_ (by have h_:=Kd.R_ne HL163_0.out BK148.out D8;intro e_;exact h_ D97) _;exact yB BK148⟩
            have n3_:Aside0 (Below w.heap.size w (w36.setCell ⟨go29,(x9_4:Int).toNat,none⟩ (.int .i64 x5_4))):=⟨by repeat (first|(with_reducible first|exact HB.out|apply pa|apply pb|apply pd|refine pt ?_ GB29.out|refine pt ?_ GE148.out)|exact HB.out)⟩
            (try clear HO_4)
            (try clear HO_24)
            (try clear BK148)
            (try clear HB)
            have hx3_:(w36.setCell ⟨go29,(x9_4:Int).toNat,none⟩ (.int .i64 x5_4)).cell? (ad163.add ((ji30)).toNat)=some (.slice A2_ N2_ c2_):=(cell_far (fun e_=>hne_ (((pl_add _ _).symm.trans e_).symm)) _).trans hx2_
            clear hx2_ hne_
            generalize (w36.setCell ⟨go29,(x9_4:Int).toNat,none⟩ (.int .i64 x5_4))=w40 at n0_ n1_ n2_ n3_ hx3_ ⊢
            have HO_4:=n0_
            have HO_24:=n1_
            have BK148:=n2_
            have HB:=n3_
            clear n0_ n1_ n2_ n3_
            have p167:0≤((ji30):Int):=od D0
            have q167:(ji30) < (y166.length:Int):=(by have h_:((ji30):Int) < ((x4_4.length:Int):Int):=od D0;first|(have e_:=(Kd.S_reads' HO_4.out).1;omega)|simpa only [Ny166.out,List.length_set] using h_)
            have ql167:(((ji30):Int) < ((x4_4.length:Int):Int))=True:=eq_true (od D0)
            obtain ⟨ad167,A167_0,c167_0,e167,hx167_0,hl167_0,hi167_0⟩:=at_II (Kd.S_reads' HO_4.out).2.2 (ji30) p167 q167
            obtain rfl:ad163=ad167:=(by injection e167)
            have he_:=Option.some.inj (hx167_0.symm.trans hx3_)
            clear hx3_
            injection he_ with he1_ he2_ he3_
            subst he1_
            subst he2_
            subst he3_
            obtain ⟨ce167,hce167,hMe167,hcc167⟩:=Kd.S_get HO_4.out [] (ji30) p167 (by first|exact q167|exact od D0|(have e_:=(Kd.S_reads' HO_4.out).1;omega))
            obtain ⟨ve167_0,rfl,ge167_0⟩:=hMe167
            have hv167_0:=hcc167 0 _ rfl
            rw [Nat.add_zero,show ((Kd.slice 3 (Kd.int .i64))).sz=1 from rfl,Nat.mul_one] at hv167_0
            replace hv167_0:=Option.some.inj (hv167_0.symm.trans hx167_0)
            rw [hv167_0] at ge167_0
            have HL167_0:=am (show Kd.R (Kd.int .i64) 3 _ _ _ _ (rd_II y166 (ji30)) from ge167_0)
            clear hv167_0 ge167_0
            have HX167_0:=am hx167_0
            clear hcc167 hce167
            have HR167_0:=am hi167_0
            have HC167_0:=am hl167_0
            clear hi167_0 hl167_0
            replace p167:=eq_true p167
            replace q167:=eq_true q167
            have p35:0≤(x31_3:Int):=od D0
            have q35:(x31_3:Int) < (((rd_II y166 (ji30)).length:Int):Int):=od D0
            obtain ⟨go35,co35,eo35,gb35,gl35,cl35,HG35⟩:=Kd.R_form HL167_0.out D11
            (first|cases eo35|(injection eo35 with ea_ en_ ec_;(first|subst ea_|(injection ea_ with ea_;subst ea_));subst ec_;clear en_))
            have GB35:=am gb35
            have GG35:=am HG35
            clear gb35 gl35 HG35
            obtain ⟨hx35_0,hf35_0⟩:=Kd.R_celln 0 HL167_0.out (x31_3:Int) p35 q35
            replace p35:=eq_true p35
            replace q35:=eq_true q35
            have hq42:((ji30):Int) < (x4_4.length:Int):=od D0
            obtain ⟨oki42,ce42,hcl42,hM42,hcc42,hok42,hbk42⟩:=Kd.S_borrow HO_4.out [] ((ji30):Int) (od D0) hq42
            obtain ⟨ve42_0,rfl,ge42_0⟩:=hM42
            have hv42:=hcc42 0 _ rfl
            rw [Nat.add_zero,show ((Kd.slice 3 (Kd.int .i64))).sz=1 from rfl,Nat.mul_one] at hv42
            replace hv42:=Option.some.inj (hv42.symm.trans HX167_0.out)
            subst hv42
            clear hcc42 hcl42
            replace ge42_0:=(show Kd.R (Kd.int .i64) 3 _ _ _ _ (rd_II y166 (ji30)) from ge42_0)
            have HP42:=Kd.R_putg ge42_0 (x31_3:Int) x5_4
            rw [← Ny168.out] at HP42
            have HS42:=hbk42 HP42.2 (fun k_ e_=>by injection e_ with e_;subst e_;exact ge42_0.1 _ rfl) (x':=y168) (Kd.M_row HP42.1)
            rw [← Ny170.out] at HS42
            have HQ42:=am HS42
            clear HP42 HS42 hbk42 hok42
            refine KitR.rR ?_
            refine KitR.rL (N:=none) HT_ rfl rfl D5 D8 (fun K hK=>?_)
            refine skip_ (w1:=?_) D15 rfl ?_ ?_
            rotate_left
            ·go_simp
             rfl
            refine hK.out _ _ ?_
            clear hK K
            refine KitR.rD HT_ D5 ?_
            try go_wp2
            (try simp only [← hl24_4])
            go_roundg k4
            case measure=>have:=HK1.out;have:=HK2.out;have:=HK3.out;have:=HK4.out;omega
            case rel=>exact ⟨(y170),(wrap64 (x5_4+1)),(wrap64 (x9_4+1)),(x24_4),D1,D1,H',⟨by have:=HK1.out;have:=HK2.out;have:=HK3.out;have:=HK4.out;omega⟩,⟨by (try simp only [hl24_2]);(try simp only [hl24_3]);(try simp only [hl24_4]);refine sS ?_;exact HQ42.out⟩,⟨by (try simp only [hl24_2]);(try simp only [hl24_3]);(try simp only [hl24_4]);refine sR ?_;exact Kd.R_mono (Kd.R_far (p:=⟨go35,(x31_3:Int).toNat,none⟩) (Kd.R_far1 HO_24.out rfl ((HL167_0.out.1 _ rfl).1)) (fun _ hk=>hk.2) (.int .i64 x5_4)) (fun _ hk=>trivial)⟩,⟨by (try simp only [hl24_2]);(try simp only [hl24_3]);(try simp only [hl24_4]);refine sB ?_;refine blk_far ?_ (by have h_:=Kd.R_ne HL167_0.out BK148.out D8;intro e_;exact h_ D97) _;exact yB BK148⟩,⟨by repeat (first|(with_reducible first|exact HB.out|apply pa|apply pb|apply pd|refine pt ?_ GB35.out|refine pt ?_ GE148.out)|exact HB.out)⟩⟩
           rw [if_neg c23] at H
           have c23b0:=decide_eq_false c23
           clear c23
           have H':=am H
           clear H
           go_wp2
           (try simp only [← hl24_3,← hl24_4])
           go_roundg k4
           case measure=>have:=HK1.out;have:=HK2.out;have:=HK3.out;have:=HK4.out;omega
           case rel=>exact ⟨(x4_4),(x5_4),(x24_4),(wrap64 (x31_3+1)),D1,D1,H',⟨by have:=HK1.out;have:=HK2.out;have:=HK3.out;have:=HK4.out;omega⟩,⟨by (try simp only [hl24_2]);(try simp only [hl24_3]);(try simp only [hl24_4]);refine sS ?_;exact HO_4.out⟩,⟨by (try simp only [hl24_2]);(try simp only [hl24_3]);(try simp only [hl24_4]);refine sR ?_;exact HO_24.out⟩,⟨by (try simp only [hl24_2]);(try simp only [hl24_3]);(try simp only [hl24_4]);exact yB BK148⟩,⟨yW HB⟩⟩
        rw [if_neg c22] at H
        have c22b0:=decide_eq_false c22
        clear c22
        have H':=am H
        clear H
        go_wp2
        (try simp only [← hl24_2,← hl24_3])
        go_roundg k3
        case measure=>have:=HK1.out;have:=HK2.out;have:=HK3.out;omega
        case rel=>exact ⟨(x4_3),(x5_3),(x24_3),(wrap64 (x26_2+1)),D1,D1,H',⟨D80⟩,⟨by (try simp only [hl24_2]);(try simp only [hl24_3]);refine sS ?_;exact HO_4.out⟩,⟨by (try simp only [hl24_2]);(try simp only [hl24_3]);refine sR ?_;exact HO_24.out⟩,⟨by (try simp only [hl24_2]);(try simp only [hl24_3]);exact yB BK148⟩,⟨yW HB⟩⟩
     rw [if_neg c19] at H
     have c19b0:=decide_eq_false c19
     (try simp only [hl24_2] at c19b0)
     (try simp only [hl24_2] at c19b0)
     clear c19
     obtain rfl:=Option.some.inj H
     go_wp2
     go_ret
     exact ⟨_,D2,by refine sS ?_;exact Kd.S_mono HO_4.out (fun _ hk=>trivial),yW HB⟩
end

section
open Go.Proofs.Yteflgifmdojahaa.KitR
def impl_Msr_message.E (l:List Int) (P:List (List Int)) (k:Nat) (i j:Int):Option Int:=if (0≤i∧i < (P.length:Int))∧(0≤j∧j < ((rd_II P i).length:Int))∧0≤rd (rd_II P i) j∧rd (rd_II P i) j < (l.length:Int) then some (rd l (rd (rd_II P i) j)) else none
theorem impl_Msr_message.mono_E (l:List Int) (P:List (List Int)):∀ i j k,LeO (impl_Msr_message.E l P k i j) (impl_Msr_message.E l P (k+1) i j):=fun _ _ _=>LeO.refl _
def impl_Msr_message.f (k:Nat) (a0_0:Int) (a0_1:Int) (l1:List Int):Option (List (List Int)):=(impl_Msr_places.f k a0_0 a0_1).bind fun P=>(impl_Msr_alpha.f a0_0 a0_1).bind fun n=>impl_filled.f (impl_Msr_message.E l1 P) k (wrap64 (2*n)) n
theorem impl_Msr_message.mono:∀ a0 a1 a2 k,LeO (impl_Msr_message.f k a0 a1 a2) (impl_Msr_message.f (k+1) a0 a1 a2):=fun a0 a1 a2 k=>by
 unfold impl_Msr_message.f
 exact LeO.bind (impl_Msr_places.mono _ _ _) (fun P=>LeO.bind (LeO.refl _) (fun n=>impl_filled.mono _ (impl_Msr_message.mono_E a2 P) _ _ _))
set_option maxHeartbeats 4000000 in
theorem impl_Msr_message.elem (g1 g2:Nat) (l:List Int) (P:List (List Int)) (AD AP:Option Addr) (cD cP:Nat) (k:Nat) (i j t:Int) (W:World) (hb1:W.cell? ⟨g1,0,none⟩=some (.slice AD l.length cD)) (hb2:W.cell? ⟨g2,0,none⟩=some (.slice AP P.length cP))
  (hD:Kd.C (Kd.int .u8) W AD l.length l) (hP:Kd.C (Kd.slice 3 (Kd.int .i64)) W AP P.length P) (h:impl_Msr_message.E l P k i j=some t) :
  Calls Try.prog 125 #[.int .i64 i, .int .i64 j, .pointer (some ⟨g1,0,none⟩), .pointer (some ⟨g2,0,none⟩)] W fun e w'=>e = .returned (.int .u8 t)∧Drawn0 W w':=by
 unfold impl_Msr_message.E at h
 by_cases hc:(0≤i∧i < (P.length:Int))∧(0≤j∧j < ((rd_II P i).length:Int))∧0≤rd (rd_II P i) j∧rd (rd_II P i) j < (l.length:Int)
 case neg=>rw [if_neg hc] at h;cases h
 rw [if_pos hc] at h
 obtain rfl:=Option.some.inj h
 clear h
 obtain ⟨⟨i0,i1⟩,⟨j0,j1⟩,x0,x1⟩:=hc
 obtain ⟨ap,A0,c0,rfl,hrow,hle,hR⟩:=at_II hP i i0 i1
 obtain ⟨a0,rfl,hint⟩:=Kd.at_int hR j j0 j1
 obtain ⟨x,hx⟩:∃ x,x=rd (rd_II P i) j:=⟨_,rfl⟩
 obtain ⟨n0,hn0⟩:∃ n,n=(rd_II P i).length:=⟨_,rfl⟩
 rw [← hx] at hint x0 x1 ⊢
 rw [← hn0] at hrow j1 hle
 obtain ⟨ad,rfl,hbyte⟩:=Kd.at_int hD x x0 x1
 have i0b:decide (0≤i)=true:=decide_eq_true i0
 have i1b:decide (i < (P.length:Int))=true:=decide_eq_true i1
 have j0b:decide (0≤j)=true:=decide_eq_true j0
 have j1b:decide (j < (n0:Int))=true:=decide_eq_true j1
 have x0b:decide (0≤x)=true:=decide_eq_true x0
 have x1b:decide (x < (l.length:Int))=true:=decide_eq_true x1
 replace i0:=eq_true i0
 replace i1:=eq_true i1
 replace j0:=eq_true j0
 replace j1:=eq_true j1
 replace x0:=eq_true x0
 replace x1:=eq_true x1
 clear hP hD hR hn0 hle hx
 go_enter Try.func125,Try.ntmps125
 go_wp2
 refine KitR.rS0 (n:=11) (S:=fun w'=>w'.cell? ⟨g1,0,none⟩=some (.slice (some ad) l.length cD)∧w'.cell? ⟨g2,0,none⟩=some (.slice (some ap) P.length cP)∧w'.cell? (ap.add i.toNat)=some (.slice (some a0) n0 c0)∧w'.cell? (a0.add j.toNat)=some (.int .i64 x)∧w'.cell? (ad.add x.toNat)=some (.int .u8 (rd l x))) (ds:=[]) [(0,7),(1,8),(2,9),(5,12),(3,10),(4,11),(6,13),(7,14),(8,15),(9,16),(10,6)] D5 rfl ⟨hb1,hb2,hrow,hint,hbyte⟩ (fun hHeld HT_ HW_=>?_)
 refine KitR.rR ?_
 refine KitR.rD HT_ D5 ?_
 try go_wp2
 go_ret
 exact ⟨rfl,⟨1,rfl⟩⟩
structure MsgInv (w:World) (g0 g1 g2:Nat) (a0_0 a0_1:Int) (A1:Option Addr) (c1:Nat) (l1:List Int) (A2:Option Addr) (c2:Nat) (P:List (List Int)) (W:World):Prop where
 B:Below w.heap.size w W
 k0:W.heap[g0]? = some (.cells #[.int .i64 a0_0, .int .i64 a0_1] 30 (0,0))
 k1:W.heap[g1]? = some (.cells #[.slice A1 l1.length c1] 24 (0,0))
 k2:W.heap[g2]? = some (.cells #[.slice A2 P.length c2] 135 (0,0))
 hD:Kd.C (Kd.int .u8) W A1 l1.length l1
 hP:Kd.C (Kd.slice 3 (Kd.int .i64)) W A2 P.length P
section
variable {w W w2 w1 W0:World} {g0 g1 g2:Nat} {a0_0 a0_1:Int} {A1:Option Addr} {c1:Nat} {l1:List Int} {A2:Option Addr} {c2:Nat} {P:List (List Int)}
theorem MsgInv.below (h:MsgInv w g0 g1 g2 a0_0 a0_1 A1 c1 l1 A2 c2 P W) (hb:Below W.heap.size W w2):MsgInv w g0 g1 g2 a0_0 a0_1 A1 c1 l1 A2 c2 P w2 :=
 ⟨pu h.B hb,qb h.k0 hb,qb h.k1 hb,qb h.k2 hb,Kd.C_below h.hD hb,Kd.C_below h.hP hb⟩
theorem MsgInv.cells (h:MsgInv w g0 g1 g2 a0_0 a0_1 A1 c1 l1 A2 c2 P W):W.cell? ⟨g0,0,none⟩=some (.int .i64 a0_0)∧W.cell? ⟨g0,1,none⟩=some (.int .i64 a0_1):=⟨(blk_cell h.k0 0).trans rfl,(blk_cell h.k0 1).trans rfl⟩
theorem MsgInv.first (hb0:Below w.heap.size w W0) (hk0:W0.heap[g0]? = some (.cells #[.int .i64 a0_0, .int .i64 a0_1] 30 (0,0))) (hk1:W0.heap[g1]? = some (.cells #[.slice A1 l1.length c1] 24 (0,0)))
  (hb1:Below W0.heap.size W0 w1) {b:Nat} {ok:Nat→Prop} (ho:Kd.S (Kd.slice 3 (Kd.int .i64)) 62 w1 b ok (.slice A2 P.length c2) P) (hr:Kd.C (Kd.int .u8) w A1 l1.length l1) :
  MsgInv w g0 g1 w1.heap.size a0_0 a0_1 A1 c1 l1 A2 c2 P (w1.alloc (Obj.cells #[.slice A2 P.length c2] 135 (0,0))):=by
 have hb:=pa (Below.refl w1.heap.size w1) (Obj.cells #[.slice A2 P.length c2] 135 (0,0))
 exact ⟨pu (pu hb0 hb1) hb,qb (qb hk0 hb1) hb,qb (qb hk1 hb1) hb,heap_alloc_new w1 _,Kd.C_below (Kd.C_below (Kd.C_below hr hb0) hb1) hb,Kd.C_below (Kd.S_reads' ho).2.2 hb⟩
theorem MsgInv.elem (h:MsgInv w g0 g1 g2 a0_0 a0_1 A1 c1 l1 A2 c2 P W) {k:Nat} {i j t:Int} (hE:impl_Msr_message.E l1 P k i j=some t) :
  Calls Try.prog 125 (#[.int .i64 i, .int .i64 j] ++ #[.pointer (some ⟨g1,0,none⟩), .pointer (some ⟨g2,0,none⟩)]) W fun e w'=>e = .returned (.int .u8 t)∧Drawn0 W w' :=
 impl_Msr_message.elem g1 g2 l1 P A1 A2 c1 c2 k i j t W ((blk_cell h.k1 0).trans rfl) ((blk_cell h.k2 0).trans rfl) h.hD h.hP hE
end
theorem impl_Msr_message.calls (k:Nat) (a0_0:Int) (a0_1:Int) (A1:Option Addr) (c1:Nat) (l1:List Int) (r:List (List Int)) (w:World) (hr1:Kd.C (Kd.int .u8) w A1 l1.length l1) (hc1:l1.length≤c1) (h:impl_Msr_message.f k a0_0 a0_1 l1=some r) :
  Calls Try.prog 60 #[.agg #[.int .i64 a0_0, .int .i64 a0_1], .slice A1 l1.length c1] w fun e w'=>∃ v0_:Value,e = .returned (v0_)∧Kd.S (Kd.slice 5 (Kd.int .u8)) 24 w' w.heap.size (fun _=>True) v0_ r∧Below w.heap.size w w':=by
 unfold impl_Msr_message.f at h
 obtain ⟨P,hP,h⟩:=Option.bind_eq_some_iff.mp h
 obtain ⟨n,hn,h⟩:=Option.bind_eq_some_iff.mp h
 have HP:=am hP
 have HN:=am hn
 have HF:=am h
 have HR:=am hr1
 have HC:=am hc1
 clear hP hn h hr1 hc1
 go_enter Try.func60,Try.ntmps60
 go_upto_region 1 with (fail)
 obtain ⟨W0,hW0⟩:∃ W:World,W=(w.alloc (.cells #[.int .i64 a0_0, .int .i64 a0_1] 30 (0,0))).alloc (.cells #[.slice A1 l1.length c1] 24 (0,0)):=⟨_,rfl⟩
 have b0:Below w.heap.size w W0:=by rw [hW0];exact pa (pa (Below.refl _ _) _) _
 have k0:W0.heap[w.heap.size]? = some (.cells #[.int .i64 a0_0, .int .i64 a0_1] 30 (0,0)):=by rw [hW0];exact qa (heap_alloc_new w _) _
 have k1:W0.heap[w.heap.size+1]? = some (.cells #[.slice A1 l1.length c1] 24 (0,0)):=by
  rw [hW0]
  have:=heap_alloc_new (w.alloc (.cells #[.int .i64 a0_0, .int .i64 a0_1] 30 (0,0))) (.cells #[.slice A1 l1.length c1] 24 (0,0))
  have e:(w.alloc (.cells #[.int .i64 a0_0, .int .i64 a0_1] 30 (0,0))).heap.size=w.heap.size+1:=by simp
  rwa [e] at this
 rw [← hW0]
 clear hW0
 obtain ⟨g0,hg0⟩:∃ g,g=w.heap.size:=⟨_,rfl⟩
 rw [← hg0] at k0 k1 ⊢
 obtain ⟨g1,hg1⟩:∃ g,g=g0+1:=⟨_,rfl⟩
 rw [← hg1] at k1 ⊢
 have hc0:W0.cell? ⟨g0,0,none⟩=some (.int .i64 a0_0):=(blk_cell k0 0).trans rfl
 have hc1:W0.cell? ⟨g0,1,none⟩=some (.int .i64 a0_1):=(blk_cell k0 1).trans rfl
 have HB0:=am b0
 have HK0:=am k0
 have HK1:=am k1
 have hu:=Try.underlying30
 clear b0 k0 k1 hg0 hg1
 go_wp2_with (first|(go_at_call 108;refine (impl_Msr_places.calls k a0_0 a0_1 P _ HP.out).mono ?_;rintro e w1 ⟨v1,rfl,ho1,hb1⟩;obtain ⟨A2,c2,rfl⟩:=Kd.S_slice ho1;have HO1:=am ho1;have HB1:=am hb1;clear ho1 hb1 hc0 hc1))
 have HM:=am (MsgInv.first HB0.out HK0.out HK1.out HB1.out HO1.out HR.out)
 clear HB0 HK0 HK1 HB1 HO1
 generalize w1.heap.size=g2 at HM ⊢
 generalize w1.alloc (Obj.cells #[.slice A2 P.length c2] 135 (0,0))=W1 at HM ⊢
 replace HM:=am (HM.out.below (pd (Below.refl _ _)))
 refine KitR.rS0 (n:=8) (S:=fun w'=>w'.cell? ⟨g0,0,none⟩=some (.int .i64 a0_0)∧w'.cell? ⟨g0,1,none⟩=some (.int .i64 a0_1)) (ds:=[]) [(0,8),(3,11),(5,13),(1,0),(2,10),(4,0),(6,0),(7,4)] D5 rfl HM.out.cells (fun hHeld HT_ HW_=>?_)
 generalize W1.drew=W1 at HM hHeld ⊢
 refine KitR.rR ?_
 refine KitR.rO (N:=some 9) HT_ rfl rfl D5 D8 (fun K hK=>?_)
 refine goes_ Try.func103 D5 rfl #[.agg #[.int .i64 a0_0, .int .i64 a0_1]] D15 rfl rfl (by (try simp only [q4,q5,q6]);first|done|rfl) ?_
 with_reducible refine (impl_Msr_alpha.calls a0_0 a0_1 n _ HN.out).mono ?_
 rintro e w2 ⟨rfl,hb⟩
 refine ⟨_,rfl,?_⟩
 replace HM:=am (HM.out.below hb)
 clear hb
 refine hK.out _ _ HM.out.cells (fun hHeld=>?_)
 clear hK K
 refine KitR.rN (a':=?_) ?_ ?_
 rotate_left
 ·show Act.put _ (some 9) _=_
  simp only [Act.put,q1,q2,q3,i64_w,i32_w]
  rfl
 refine KitR.rR ?_
 refine KitR.rO (N:=some 12) HT_ rfl rfl D5 D8 (fun K hK=>?_)
 refine goes_ Try.func103 D5 rfl #[.agg #[.int .i64 a0_0, .int .i64 a0_1]] D15 rfl rfl (by (try simp only [q4,q5,q6]);first|done|rfl) ?_
 with_reducible refine (impl_Msr_alpha.calls a0_0 a0_1 n _ HN.out).mono ?_
 rintro e w3 ⟨rfl,hb⟩
 refine ⟨_,rfl,?_⟩
 replace HM:=am (HM.out.below hb)
 clear hb
 refine hK.out _ _ HM.out.cells (fun hHeld=>?_)
 clear hK K
 refine KitR.rN (a':=?_) ?_ ?_
 rotate_left
 ·show Act.put _ (some 12) _=_
  simp only [Act.put,q1,q2,q3,i64_w,i32_w]
  rfl
 refine KitR.rO (N:=some 14) HT_ rfl rfl D5 D8 (fun K hK=>?_)
 refine goes_ Try.func86 D5 rfl #[.int .i64 (wrap64 (2*n)), .int .i64 n, .func (.func 125) #[] #[.pointer (some ⟨g1,0,none⟩), .pointer (some ⟨g2,0,none⟩)]] D15 rfl rfl (by (try simp only [q4,q5,q6]);first|done|rfl) ?_
 refine (impl_filled.calls (impl_Msr_message.E l1 P) 125 (enters_of Try.func125 rfl rfl) #[.pointer (some ⟨g1,0,none⟩), .pointer (some ⟨g2,0,none⟩)] k (wrap64 (2*n)) n r w3 (fun k i j t W' hb' hE=>(HM.out.below hb').elem hE) HF.out).mono ?_
 rintro e w4 ⟨v,rfl,hS,hb⟩
 refine ⟨_,rfl,?_⟩
 have HS:=am (Kd.S_lower hS (pz HM.out.B))
 replace HM:=am (HM.out.below hb)
 clear hb hS
 refine hK.out _ _ HM.out.cells (fun hHeld=>?_)
 clear hK K
 refine KitR.rN (a':=?_) ?_ ?_
 rotate_left
 ·show Act.put _ (some 14) _=_
  simp only [Act.put,q1,q2,q3,i64_w,i32_w]
  rfl
 refine KitR.rR ?_
 refine KitR.rD HT_ D5 ?_
 try go_wp2
 go_ret
 exact ⟨_,rfl,HS.out,HM.out.B⟩
end

def impl_MessageOf.f (k:Nat) (a0_0:Int) (a0_1:Int) (l1:List Int):Option ((List (List Int)) × Bool):=(impl_GoodMsr.f a0_0 a0_1).bind fun t112=>(if t112=true then ((impl_Msr_size.f a0_0 a0_1).bind fun t113=>(if (l1.length:Int)=t113 then ((impl_Msr_message.f k a0_0 a0_1 l1).bind fun t114=>(some (t114,true))) else (some (([]:List (List Int)),false)))) else (some (([]:List (List Int)),false)))
theorem impl_MessageOf.mono:∀ a0 a1 a2 k,LeO (impl_MessageOf.f k a0 a1 a2) (impl_MessageOf.f (k+1) a0 a1 a2):=by
 intro a0 a1 a2 k
 unfold impl_MessageOf.f
 exact mm
theorem impl_MessageOf.calls (k:Nat) (a0_0:Int) (a0_1:Int) (A1:Option Addr) (c1:Nat) (l1:List Int) (r1:List (List Int)) (r2:Bool) (w:World) (hr1:Kd.C (Kd.int .u8) w A1 l1.length l1) (hc1:l1.length≤c1) (h:impl_MessageOf.f k a0_0 a0_1 l1=some (r1,r2)) :
  Calls Try.prog 12 #[.agg #[.int .i64 a0_0, .int .i64 a0_1], .slice A1 l1.length c1] w fun e w'=>∃ v0_:Value,e = .returned (.tuple #[.agg #[v0_], .bool r2])∧Kd.S (Kd.slice 5 (Kd.int .u8)) 24 w' w.heap.size (fun _=>True) v0_ r1∧Below w.heap.size w w':=by
 have hu30:=Try.underlying30
 have hu27:=Try.underlying27
 have HR1:=am hr1
 have HC1:=am hc1
 clear hr1 hc1
 have HB:=am (Below.refl w.heap.size w)
 have H:=h
 unfold impl_MessageOf.f at H
 clear h
 obtain ⟨t112,A3,H⟩:=yo H
 by_cases c4:t112=true
 ·subst c4
  replace H:=yt H
  obtain ⟨t113,A5,H⟩:=yo H
  by_cases c6:(l1.length:Int)=t113
  ·rw [if_pos c6] at H
   have c6b0:((l1.length:Int) == t113)=true:=beq_iff_eq.mpr c6
   have c6b1:((l1.length:Int) != t113)=false:=bne_eq_false_iff_eq.mpr c6
   clear c6
   obtain ⟨t114,A7,H⟩:=yo H
   simp only [Option.some.injEq,Prod.mk.injEq] at H
   obtain ⟨rfl,rfl⟩:=H
   go_enter Try.func12,Try.ntmps12
   go_wp2_with (first|((with_reducible refine gD 2 ?_);(try (refine gate_guard D15 ?_;dsimp only));refine gB (cs:=#[.int .i64 a0_0, .int .i64 a0_1]) 30 ?_;intro gb110 hg w8 hbox hb;have BK110:=am (hbox);have GW110:=ye HB hg;replace HB:=yH HB hb;have GE110:=GW110;clear hb hbox hg)|((with_reducible refine gD 4 ?_);(try (refine gate_guard D15 ?_;dsimp only));refine gB (cs:=#[.slice none 0 0]) 27 ?_;intro gb111 hg w9 hbox hb;have BK111:=am (hbox);have GW111:=ye HB hg;replace HB:=yH HB hb;have NB110_111:=yl BK110 hg;have NB111_110:=yg BK110 hg;replace BK110:=yb BK110 hb;have GE111:=GW111;clear hb hbox hg;have hnb10:=NB110_111.out;have hnc10:=NB111_110.out;obtain ⟨hcz11_0,hcz11_1,hfz11_0,hfz11_1⟩:=yk2 BK110)|((with_reducible refine gC 46 ?_);refine gM (some 7) Try.func46 (args:=#[.agg #[.int .i64 a0_0, .int .i64 a0_1]]) (impl_GoodMsr.calls a0_0 a0_1 true _ A3.out) ?_;rintro e w12 ⟨rfl,hb⟩;refine ⟨_,rfl,?_⟩;replace BK110:=yb BK110 hb;replace BK111:=yb BK111 hb;replace HB:=yH HB hb;clear hb;obtain ⟨hcz13_0,hcz13_1,hfz13_0,hfz13_1⟩:=yk2 BK110)|(go_at_call 59;(with_reducible refine (impl_Msr_size.calls a0_0 a0_1 t113 _ A5.out).mono ?_);rintro e w14 ⟨rfl,hb⟩;replace BK110:=yb BK110 hb;replace BK111:=yb BK111 hb;replace HB:=yH HB hb;clear hb;obtain ⟨hcz15_0,hcz15_1,hfz15_0,hfz15_1⟩:=yk2 BK110)|((with_reducible refine gC 60 ?_);refine gM (some 19) Try.func60 (args:=#[.agg #[.int .i64 a0_0, .int .i64 a0_1], .slice A1 l1.length c1]) (impl_Msr_message.calls k a0_0 a0_1 _ _ l1 t114 _ (yc (Kd.C_below HR1.out HB.out)) HC1.out A7.out) ?_;rintro e w16 ⟨v115,rfl,ho0,hb⟩;refine ⟨_,rfl,?_⟩;have HO116:=am (Kd.S_lower ho0 (pz (yW HB)));replace BK110:=yb BK110 hb;replace BK111:=yb BK111 hb;replace HB:=yH HB hb;clear hb ho0;obtain ⟨Ao17,co17,eo17⟩:=Kd.S_slice HO116.out;subst eo17;obtain ⟨hcz18_0,hfz18_0⟩:=yk1 BK111))
   refine bodyPost_ret (results_ct rfl _ _ gb111 27 #[.slice Ao17 t114.length co17] (0,0) _ rfl D94 Try.underlying27 rfl D5) rfl ?_
   exact ⟨_,D2,by refine sS ?_;exact Kd.S_mono (Kd.S_far (p:=⟨gb111,0,none⟩) (Kd.S_types HO116.out BK111.out D8) (fun _ hk=>hk.2) (.slice Ao17 t114.length co17)) (fun _ hk=>trivial),yW HB⟩
  rw [if_neg c6] at H
  have c6b0:((l1.length:Int) == t113)=false:=beq_eq_false_iff_ne.mpr c6
  have c6b1:((l1.length:Int) != t113)=true:=bne_iff_ne.mpr c6
  simp only [Option.some.injEq,Prod.mk.injEq] at H
  obtain ⟨rfl,rfl⟩:=H
  go_enter Try.func12,Try.ntmps12
  go_wp2_with (first|((with_reducible refine gD 2 ?_);(try (refine gate_guard D15 ?_;dsimp only));refine gB (cs:=#[.int .i64 a0_0, .int .i64 a0_1]) 30 ?_;intro gb110 hg w19 hbox hb;have BK110:=am (hbox);have GW110:=ye HB hg;replace HB:=yH HB hb;have GE110:=GW110;clear hb hbox hg)|((with_reducible refine gD 4 ?_);(try (refine gate_guard D15 ?_;dsimp only));refine gB (cs:=#[.slice none 0 0]) 27 ?_;intro gb111 hg w20 hbox hb;have BK111:=am (hbox);have GW111:=ye HB hg;replace HB:=yH HB hb;have NB110_111:=yl BK110 hg;have NB111_110:=yg BK110 hg;replace BK110:=yb BK110 hb;have GE111:=GW111;clear hb hbox hg;have hnb21:=NB110_111.out;have hnc21:=NB111_110.out;obtain ⟨hcz22_0,hcz22_1,hfz22_0,hfz22_1⟩:=yk2 BK110)|((with_reducible refine gC 46 ?_);refine gM (some 7) Try.func46 (args:=#[.agg #[.int .i64 a0_0, .int .i64 a0_1]]) (impl_GoodMsr.calls a0_0 a0_1 true _ A3.out) ?_;rintro e w23 ⟨rfl,hb⟩;refine ⟨_,rfl,?_⟩;replace BK110:=yb BK110 hb;replace BK111:=yb BK111 hb;replace HB:=yH HB hb;clear hb;obtain ⟨hcz24_0,hcz24_1,hfz24_0,hfz24_1⟩:=yk2 BK110)|(go_at_call 59;(with_reducible refine (impl_Msr_size.calls a0_0 a0_1 t113 _ A5.out).mono ?_);rintro e w25 ⟨rfl,hb⟩;replace BK110:=yb BK110 hb;replace BK111:=yb BK111 hb;replace HB:=yH HB hb;clear hb;obtain ⟨hcz26_0,hfz26_0⟩:=yk1 BK111))
  refine bodyPost_ret (results_ct rfl _ _ gb111 27 #[.slice none 0 0] (0,0) _ rfl D94 Try.underlying27 rfl D5) rfl ?_
  exact ⟨_,D2,D18,yW HB⟩
 replace c4:=Bool.eq_false_iff.mpr c4
 subst c4
 replace H:=yn H
 simp only [Option.some.injEq,Prod.mk.injEq] at H
 obtain ⟨rfl,rfl⟩:=H
 go_enter Try.func12,Try.ntmps12
 go_wp2_with (first|((with_reducible refine gD 2 ?_);(try (refine gate_guard D15 ?_;dsimp only));refine gB (cs:=#[.int .i64 a0_0, .int .i64 a0_1]) 30 ?_;intro gb110 hg w27 hbox hb;have BK110:=am (hbox);have GW110:=ye HB hg;replace HB:=yH HB hb;have GE110:=GW110;clear hb hbox hg)|((with_reducible refine gD 4 ?_);(try (refine gate_guard D15 ?_;dsimp only));refine gB (cs:=#[.slice none 0 0]) 27 ?_;intro gb111 hg w28 hbox hb;have BK111:=am (hbox);have GW111:=ye HB hg;replace HB:=yH HB hb;have NB110_111:=yl BK110 hg;have NB111_110:=yg BK110 hg;replace BK110:=yb BK110 hb;have GE111:=GW111;clear hb hbox hg;have hnb29:=NB110_111.out;have hnc29:=NB111_110.out;obtain ⟨hcz30_0,hcz30_1,hfz30_0,hfz30_1⟩:=yk2 BK110)|((with_reducible refine gC 46 ?_);refine gM (some 7) Try.func46 (args:=#[.agg #[.int .i64 a0_0, .int .i64 a0_1]]) (impl_GoodMsr.calls a0_0 a0_1 false _ A3.out) ?_;rintro e w31 ⟨rfl,hb⟩;refine ⟨_,rfl,?_⟩;replace BK110:=yb BK110 hb;replace BK111:=yb BK111 hb;replace HB:=yH HB hb;clear hb;obtain ⟨hcz32_0,hfz32_0⟩:=yk1 BK111))
 refine bodyPost_ret (results_ct rfl _ _ gb111 27 #[.slice none 0 0] (0,0) _ rfl D94 Try.underlying27 rfl D5) rfl ?_
 exact ⟨_,D2,D18,yW HB⟩
end
def spec_l1In.f (a0:Int) (a1:Int) (a2:Int):Option (Bool):=if a0 ≥ a1 then (some (decide (a0≤a2))) else (some false)
theorem spec_l1In.calls (a0:Int) (a1:Int) (a2:Int) (r:Bool) (w:World) (h:spec_l1In.f a0 a1 a2=some r) :
  Calls Try.prog 84 #[.int .i64 a0, .int .i64 a1, .int .i64 a2] w fun e w'=>e = .returned (.bool r)∧Drawn0 w w':=by
 have H:=h
 unfold spec_l1In.f at H
 clear h
 by_cases c4:a0 ≥ a1
 ·rw [if_pos c4] at H
  have c4b0:decide (a1≤a0)=true:=decide_eq_true c4
  clear c4
  obtain rfl:=Option.some.inj H
  go_enter Try.func84,Try.ntmps84
  go_wp2
  go_ret
  exact ⟨D1,D12⟩
 rw [if_neg c4] at H
 have c4b0:decide (a1≤a0)=false:=decide_eq_false c4
 clear c4
 obtain rfl:=Option.some.inj H
 go_enter Try.func84,Try.ntmps84
 go_wp2
 go_ret
 exact ⟨D1,D12⟩

def spec_GoodMsr.f (a0_0:Int) (a0_1:Int):Option (Bool):=(spec_l1In.f a0_1 2 4).bind fun t118=>(if t118=true then ((spec_l1In.f a0_0 (wrap64 ((wrap64 (2*a0_1)) - 1)) 14).bind fun t119=>(some t119)) else (some false))
theorem spec_GoodMsr.calls (a0_0:Int) (a0_1:Int) (r:Bool) (w:World) (h:spec_GoodMsr.f a0_0 a0_1=some r) :
  Calls Try.prog 47 #[.agg #[.int .i64 a0_0, .int .i64 a0_1]] w fun e w'=>e = .returned (.bool r)∧Below w.heap.size w w':=by
 have hu30:=Try.underlying30
 have HB:=am (Below.refl w.heap.size w)
 have H:=h
 unfold spec_GoodMsr.f at H
 clear h
 obtain ⟨t118,A2,H⟩:=yo H
 by_cases c3:t118=true
 ·subst c3
  replace H:=yt H
  obtain ⟨t119,A4,H⟩:=yo H
  obtain rfl:=Option.some.inj H
  go_enter Try.func47,Try.ntmps47
  go_wp2_with (first|((with_reducible refine gD 1 ?_);refine gB (cs:=#[.int .i64 a0_0, .int .i64 a0_1]) 30 ?_;intro gb117 hg w5 hbox hb;have BK117:=am (hbox);have GW117:=ye HB hg;replace HB:=yH HB hb;have GE117:=GW117;clear hb hbox hg;obtain ⟨hcz6_0,hcz6_1,hfz6_0,hfz6_1⟩:=yk2 BK117)|((with_reducible refine gC 84 ?_);refine gM (some 5) Try.func84 (args:=#[.int .i64 a0_1, .int .i64 2, .int .i64 4]) (spec_l1In.calls a0_1 2 4 true _ A2.out) ?_;rintro e w' ⟨rfl,⟨nd,rfl⟩⟩;refine ⟨_,rfl,?_⟩)|(go_at_call 84;(with_reducible refine (spec_l1In.calls a0_0 (wrap64 ((wrap64 (2*a0_1)) - 1)) 14 t119 _ A4.out).mono ?_);rintro e w' ⟨rfl,⟨nd,rfl⟩⟩))
  go_ret
  exact ⟨D2,yW HB⟩
 replace c3:=Bool.eq_false_iff.mpr c3
 subst c3
 replace H:=yn H
 obtain rfl:=Option.some.inj H
 go_enter Try.func47,Try.ntmps47
 go_wp2_with (first|((with_reducible refine gD 1 ?_);refine gB (cs:=#[.int .i64 a0_0, .int .i64 a0_1]) 30 ?_;intro gb117 hg w7 hbox hb;have BK117:=am (hbox);have GW117:=ye HB hg;replace HB:=yH HB hb;have GE117:=GW117;clear hb hbox hg;obtain ⟨hcz8_0,hcz8_1,hfz8_0,hfz8_1⟩:=yk2 BK117)|((with_reducible refine gC 84 ?_);refine gM (some 5) Try.func84 (args:=#[.int .i64 a0_1, .int .i64 2, .int .i64 4]) (spec_l1In.calls a0_1 2 4 false _ A2.out) ?_;rintro e w' ⟨rfl,⟨nd,rfl⟩⟩;refine ⟨_,rfl,?_⟩))
 go_ret
 exact ⟨D2,yW HB⟩

def spec_l2Blank.l0:Nat→Int→Int→Int→List (List Int)→Option ((List (List Int)))
 | 0,_,_,_,_=>none
 | k+1,x0,x1,x6,x122000=>if x6 < x0 then (if 0≤x1 then (if (x1:Int).toNat≤281474976710656 then (if x122000.length < 5864062014805 then (spec_l2Blank.l0 k x0 x1 (wrap64 (x6+1)) (x122000 ++ [(List.replicate (x1:Int).toNat 0)])) else (none)) else (none)) else (none)) else (some x122000)
def spec_l2Blank.f (k:Nat) (a0:Int) (a1:Int):Option ((List (List Int))):=spec_l2Blank.l0 k a0 a1 0 ([]:List (List Int))
theorem spec_l2Blank.mono_l:∀ k,(∀ y0 y1 y2 y3,LeO (spec_l2Blank.l0 k y0 y1 y2 y3) (spec_l2Blank.l0 (k+1) y0 y1 y2 y3))
 | 0=>fun _ _ _ _ r h=>by simp [spec_l2Blank.l0] at h
 | k+1=>by
  have ih0:=spec_l2Blank.mono_l k
  intro y0 y1 y2 y3
  unfold spec_l2Blank.l0
  exact mm
theorem spec_l2Blank.mono:∀ a0 a1 k,LeO (spec_l2Blank.f k a0 a1) (spec_l2Blank.f (k+1) a0 a1):=by
 intro a0 a1 k
 have ih0:=spec_l2Blank.mono_l k
 unfold spec_l2Blank.f
 exact mm
def spec_l2Blank.T5:Bool × List (List Nat × List Nat):=(true,[([],[]),([0],[0]),([],[]),([2,2],[2]),([3],[3]),([1,4],[1,4]),([0,1,2,3,4,5],[]),([6,5,5,0,1,2,3,4,5],[5,6])])
def spec_l2Blank.B5:List Nat:=[0,1,0,4,12,31,63,127]
theorem spec_l2Blank.tab5:rtab .any (opsOf Try.f124 5)=spec_l2Blank.T5:=by kernel_rfl
theorem spec_l2Blank.bits5:waitsOk spec_l2Blank.T5.2 spec_l2Blank.B5=true:=by kernel_rfl
theorem spec_l2Blank.calls (k:Nat) (a0:Int) (a1:Int) (r:List (List Int)) (w:World) (h:spec_l2Blank.f k a0 a1=some r) :
  Calls Try.prog 124 #[.int .i64 a0, .int .i64 a1] w fun e w'=>∃ v0_:Value,e = .returned (.agg #[v0_])∧Kd.S (Kd.slice 5 (Kd.int .u8)) 24 w' w.heap.size (fun _=>True) v0_ r∧Below w.heap.size w w':=by
 have hu27:=Try.underlying27
 have HB:=am (Below.refl w.heap.size w)
 have H:=h
 unfold spec_l2Blank.f at H
 clear h
 have H':=am H
 clear H
 go_enter Try.func124,Try.ntmps124
 go_wp2_with (first|((with_reducible refine gD 4 ?_);refine gB (cs:=#[.slice none 0 0]) 27 ?_;intro gb120 hg w3 hbox hb;have BK120:=am (hbox);have GW120:=ye HB hg;replace HB:=yH HB hb;have GE120:=GW120;clear hb hbox hg)|((with_reducible refine gD 5 ?_);refine gB (cs:=#[.slice none 0 0]) 27 ?_;intro gb121 hg w4 hbox hb;have BK121:=am (hbox);have GW121:=ye HB hg;replace HB:=yH HB hb;have NB120_121:=yl BK120 hg;have NB121_120:=yg BK120 hg;replace BK120:=yb BK120 hb;have GE121:=GW121;clear hb hbox hg;have hnb5:=NB121_120.out;have hnc5:=NB120_121.out;obtain ⟨hcz6_0,hfz6_0⟩:=yk1 BK121))
 go_loopg [6] k (fun kq v6 w'=>∃ (x6_1:Int) (x122000_1:List (List Int)) (u122000:Value),v6 = .int .i64 x6_1∧Aside0 (spec_l2Blank.l0 kq a0 a1 x6_1 x122000_1=some r)∧Aside0 (kq≤k)∧Aside0 (Kd.S (Kd.slice 5 (Kd.int .u8)) 24 w' w.heap.size (fun _=>True) u122000 x122000_1)∧Aside0 (w'.heap[gb120]? = some (.cells #[(.slice none 0 0)] 27 (0,0)))∧Aside0 (w'.heap[gb121]? = some (.cells #[u122000] 27 (0,0)))∧Aside0 (Below w.heap.size w w'))
 case atStart=>exact ⟨(0),(([]:List (List Int))),(.slice none 0 0),D1,H',⟨Nat.le_refl _⟩,⟨D18⟩,⟨yF BK120⟩,⟨by refine sB ?_;refine blk_put (cs:=#[.slice none 0 0]) ?_ 0 _ rfl;exact yB BK121⟩,⟨yW HB⟩⟩
 case round =>
  clear H'
  try clear c1
  try clear p2
  try clear c5
  try clear hcz6_0
  try clear hfz6_0
  obtain ⟨x6_1,x122000_1,u122000,rfl,HA,HK1,HO_122000,BK120,BK121,HB⟩:=hrel
  cases gk with
  | zero=>exact absurd HA.out (by simp [spec_l2Blank.l0])
  | succ k1 =>
   have H:=HA.out
   clear HA
   simp only [spec_l2Blank.l0] at H
   by_cases c7:x6_1 < a0
   ·rw [if_pos c7] at H
    have c7b0:=decide_eq_true c7
    clear c7
    obtain ⟨c8,H⟩:=yi H
    have c8b0:=eq_true c8
    have c8b1:decide (0≤a1)=true:=decide_eq_true c8
    clear c8
    obtain ⟨c9,H⟩:=yi H
    have c9b0:=eq_true c9
    have c9b1:decide ((a1:Int).toNat≤281474976710656)=true:=decide_eq_true c9
    clear c9
    generalize hy122:(List.replicate (a1:Int).toNat 0:List Int)=y122 at H
    have Ny122:=am hy122.symm
    clear hy122
    obtain ⟨c10,H⟩:=yi H
    have LMc10:=am c10
    clear c10
    generalize hy125:(x122000_1 ++ [y122]:List (List Int))=y125 at H
    have Ny125:=am hy125.symm
    clear hy125
    have H':=am H
    clear H
    try go_wp2
    replace HO_122000:=am (Kd.S_drew HO_122000.out)
    replace BK120:=am (qd BK120.out)
    replace BK121:=am (qd BK121.out)
    replace HB:=am (pd HB.out)
    refine rS (n:=8) (S:=fun w'=>w'.cell? ⟨gb121,0,none⟩=some (u122000)) (ds:=[7]) [(0,13),(2,15),(1,14),(3,0),(4,0),(5,0),(6,19),(7,0)] D5 rfl spec_l2Blank.tab5 spec_l2Blank.bits5 (yk BK121 0) (fun hHeld HT_ HW_=>?_)
    generalize wr.drew=w11 at HO_122000 BK120 BK121 HB hHeld ⊢
    refine rR ?_
    refine rO (N:=some 16) HT_ rfl rfl D5 D8 (fun K hK=>?_)
    refine Kd.R_make_step (Kd.int .u8) _ 5 D15 (N:=16) rfl 24 _ _ rfl a1 rfl rfl Try.underlying24 (.int .u8 0) 1 info5 rfl D8 D11 0 (ok:=fun _=>True) (okp:=fun _=>True) rfl (fun _ hk=>hk) trivial (od D0) (Nat.le_trans (Nat.mul_le_mul_right _ (od D0:a1.toNat≤281474976710656)) D11) (Below.refl _ _) (Nat.le_refl _) ?_
    intro v123 w12 ho13 hb hg_ hnew_
    clear hg_ hnew_
    (first|rw [← Ny122.out] at ho13|(simp only [Int.reduceToNat] at ho13;rw [← Ny122.out] at ho13))
    replace HO_122000:=eS HO_122000 (Kd.R_base ho13) hb
    have HO124:=am (Kd.R_lower ho13 (pz (yW HB)))
    replace BK120:=yb BK120 hb
    replace BK121:=yb BK121 hb
    replace HB:=yH HB hb
    clear hb ho13
    obtain ⟨Ao15,co15,eo15⟩:=Kd.R_slice HO124.out
    (first|subst eo15|(injection eo15 with f1_ f2_ f3_;have f4_:=f1_.symm;have f5_:=f3_.symm;clear f1_ f2_ f3_;subst f4_;subst f5_))
    refine hK.out _ _ (yk BK121 0) (fun hHeld=>?_)
    clear hK K
    refine rN (nA 16) ?_
    refine rO (N:=some 17) HT_ rfl rfl D5 D8 (fun K hK=>?_)
    refine value_ (w1:=?_) (v:=?_) D15 rfl ?_ ?_
    rotate_left 2
    ·go_simp
     constructor
     ·rfl
     rfl
    refine hK.out _ _ ((blk_cell (qa BK121.out _) 0).trans rfl) (fun hHeld=>?_)
    clear hK K
    refine rN (nA 17) ?_
    refine rO (N:=some 18) HT_ rfl rfl D5 D8 (fun K hK=>?_)
    refine Kd.S_append_step (Kd.slice 5 (Kd.int .u8)) (w0:=w) w.heap.size D15 (.tmp 14) (.tmp 17) 25 24 (.slice none 0 0) 24 rfl Try.underlying25 info24 rfl D8 D11 u122000 x122000_1 y122 [.slice Ao15 y122.length co15] (fun _=>True) (fun k_=>some k_=(.slice Ao15 y122.length co15:Value).ownBlock) rfl rfl ?aP (fun k_ hk_=>((Kd.R_mono (ok':=fun k_=>((fun _=>True)) k_∧some k_ ≠ (u122000:Value).ownBlock) (Kd.R_apart' (HO124.out) (Kd.S_typed HO_122000.out) D8) (fun k_ hk=>⟨trivial,hk.2⟩))).1 k_ hk_.symm) ?aF ?aO ?aB ?aS ?aL ?_
    (case aP=>exact Kd.M_row (Kd.R_mono (Kd.R_tight rfl (Kd.R_mono (ok':=fun k_=>((fun _=>True)) k_∧some k_ ≠ (u122000:Value).ownBlock) (Kd.R_apart' (HO124.out) (Kd.S_typed HO_122000.out) D8) (fun k_ hk=>⟨trivial,hk.2⟩))) (fun _ h_=>h_)))
    (case aB=>exact (yW HB))
    (case aF=>exact (fun _ _=>trivial))
    (case aO=>exact (by refine sS ?_;exact Kd.S_mono HO_122000.out (fun k_ hk=>⟨trivial,fun e_=>hk.2 e_⟩)))
    (case aS=>exact (pz (yW HB)))
    (case aL=>have:=LMc10.out;omega)
    intro v126 w14 ho hb hg hat
    rw [← Ny125.out] at ho
    have n0_:=am (blk_grown (g:=gb120) (o:=.cells #[.slice none 0 0] 27 (0,0)) (yB BK120) hg (Kd.S_ne HO_122000.out BK120.out D8))
    have n1_:=am (blk_grown (g:=gb121) (o:=.cells #[u122000] 27 (0,0)) (yB BK121) hg (Kd.S_ne HO_122000.out BK121.out D8))
    have n2_:=am (hb)
    have n3_:=am (ho)
    clear BK120
    clear BK121
    clear HB
    clear HO_122000
    clear HO124
    have BK120:=n0_
    have BK121:=n1_
    have HB:=n2_
    have HO127:=n3_
    clear n0_ n1_ n2_ n3_
    clear ho hb hg hat
    obtain ⟨Ao16,co16,eo16⟩:=Kd.S_slice HO127.out
    (first|subst eo16|(injection eo16 with f1_ f2_ f3_;have f4_:=f1_.symm;have f5_:=f3_.symm;clear f1_ f2_ f3_;subst f4_;subst f5_))
    refine hK.out _ _ (yk BK121 0) (fun hHeld=>?_)
    clear hK K
    refine rN (nA 18) ?_
    refine rR ?_
    refine rL (N:=none) HT_ rfl rfl D5 D8 (fun K hK=>?_)
    have hs17:w14.cell? ⟨gb121,0,none⟩=some (u122000):=(blk_cell BK121.out 0).trans rfl
    have hfs17:=blk_frozen BK121.out 0
    have hns17_0:=NB120_121.out
    have hms17_0:=NB121_120.out
    refine skip_ (w1:=?_) D15 rfl ?_ ?_
    rotate_left
    ·go_simp
     rfl
    refine hK.out _ _ ?_
    clear hK K
    refine rD HT_ D5 ?_
    try go_wp2
    go_roundg k1
    case measure=>have:=HK1.out;omega
    case rel=>exact ⟨(wrap64 (x6_1+1)),(y125),(.slice Ao16 y125.length co16),D1,H',⟨D34⟩,⟨by refine sS ?_;exact Kd.S_mono (Kd.S_far (p:=⟨gb121,0,none⟩) (Kd.S_types HO127.out BK121.out D8) (fun _ hk=>hk.2) (.slice Ao16 y125.length co16)) (fun _ hk=>trivial)⟩,⟨yF BK120⟩,⟨by refine sB ?_;refine blk_put (cs:=#[u122000]) ?_ 0 _ rfl;exact yB BK121⟩,⟨yW HB⟩⟩
   rw [if_neg c7] at H
   have c7b0:=decide_eq_false c7
   clear c7
   obtain rfl:=Option.some.inj H
   have hnb18:=NB121_120.out
   have hnc18:=NB120_121.out
   obtain ⟨hcz19_0,hfz19_0⟩:=yk1 BK121
   obtain ⟨Ao20,co20,eo20⟩:=Kd.S_slice HO_122000.out
   subst eo20
   obtain ⟨hcz21_0,hfz21_0⟩:=yk1 BK120
   go_wp2
   refine bodyPost_ret (results_cell_row rfl _ _ gb120 27 #[.slice Ao20 x122000_1.length co20] (0,0) _ rfl (by refine sB ?_;refine blk_put (cs:=#[.slice none 0 0]) ?_ 0 _ rfl;exact yB BK120) Try.underlying27 rfl D5) rfl ?_
   exact ⟨_,D2,by refine sS ?_;exact Kd.S_mono (Kd.S_far (p:=⟨gb120,0,none⟩) (Kd.S_types HO_122000.out BK120.out D8) (fun _ hk=>hk.2) (.slice Ao20 x122000_1.length co20)) (fun _ hk=>trivial),yW HB⟩
end Go.Proofs.Yteflgifmdojahaa.PFnMsr
-- SQUEEZED
