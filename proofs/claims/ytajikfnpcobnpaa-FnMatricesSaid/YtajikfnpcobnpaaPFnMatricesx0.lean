import Derived.Test.YtajikfnpcobnpaaVFnMatricesB
import Derived.Test.YtajikfnpcobnpaaProg
import Derived.Below
import Derived.Deep.Draws
import Derived.Deep.AppendLies
import Derived.Maps.AppendAt
import Derived.OwnWalk
import Derived.Laws.BytesArg
import Derived.Laws.MakeOwn
import Derived.Laws.OwnMore
import Derived.Deep.OwnRows
import Derived.Tactics
import Derived.Lib.ConvBytes
import Derived.Laws.Slices
import Derived.WalkKit
import Derived.KernelRfl
import Derived.RowKit3
import Derived.Deep.LoopGhost
import Derived.Deep.QuietTactic
import Derived.BigQuiet
import Derived.WideLaws
import Derived.Deep.DeepCutAuto
import Derived.Deep.CutBlock
import Derived.Deep.RegionHeld3
import Derived.Laws.Rows
import Derived.Lib.AppendStr
import Derived.ArgAppend
import Derived.Laws.IdiomCopy
import Derived.OrdersHeld
import Derived.Laws.BitsLemmas
import Derived.Shelf.Abstract
import Derived.RowKit
import Derived.Lib.Hide
import Derived.Outline
import Derived.Test.YtajikfnpcobnpaaVFnMatricesA
namespace Go.Proofs.Ytajikfnpcobnpaa.PFnMatrices
open Go.RowKit Go.Proofs.YtajikfnpcobnpaaW.PrintWords Go.Proofs.YtajikfnpcobnpaaW.PrintLast Go.Proofs.YtajikfnpcobnpaaW.PrintMore Go.Proofs.Ytajikfnpcobnpaa.KitS
attribute [local go_sem] max2_int min2_int max_two min_two max_three min_three max_four min_four
set_option linter.unusedVariables false
set_option linter.unusedSimpArgs false
def errW : Option Int→Value
  | none=>.nilIface
  | some c=>.iface 0 (.int .i64 c)
theorem errW_none : errW none = .nilIface:=rfl
theorem errW_some (c : Int) : errW (some c) = .iface 0 (.int .i64 c):=rfl

theorem info5 : (Try.prog.info? 5).map (fun i=>(i.zero,i.size,i.bytes))=some (some (.int .u8 0),1,1):=by kernel_rfl
theorem info57 : (Try.prog.info? 57).map (fun i=>(i.zero,i.size,i.bytes))=some (some (.slice none 0 0),1,24):=by kernel_rfl
def rd_L1 (xs : List (List Int)) (i : Int) : (List Int):=xs.getD i.toNat ([] : List Int)
theorem at_L1 {w : World} {A : Option Addr} {n : Nat} {xs : List (List Int)} (h : Kd.C (Kd.slice 5 (Kd.int .u8)) w A n xs) (i : Int) (h0 : 0≤i) (h1 : i < n) : ∃ ad A0 c0,A=some ad∧w.cell? (ad.add i.toNat)=some (.slice A0 (rd_L1 xs i).length c0)∧(rd_L1 xs i).length≤c0∧(Kd.int .u8).C w A0 (rd_L1 xs i).length (rd_L1 xs i):=by
  obtain ⟨ad,c,e,_,hK,hc0⟩:=Kd.C_get h ([] : List Int) i h0 h1
  have hc : ∀ j u,c[j]? = some u→w.cell? (ad.add (i.toNat*1+j))=some u:=hc0
  obtain ⟨A0,c0,rfl,l0,g0⟩:=hK
  exact ⟨ad,A0,c0,e,by have hq:=hc 0 _ rfl;rwa [Nat.mul_one,Nat.add_zero] at hq,l0,g0⟩

/-- A function's value with more rounds: the steps of the proof. -/
theorem mm {p : Prop} (h : p:=by repeat' first | (with_reducible exact ih0 ..) | (with_reducible exact ih1 ..) | (with_reducible exact ih2 ..) | (with_reducible exact ih3 ..) | (with_reducible exact ih4 ..) | (with_reducible exact ih5 ..) | (with_reducible exact ih6 ..) | (with_reducible exact ih7 ..) | (with_reducible exact ih8 ..) | (with_reducible exact LeO.refl _) | (with_reducible exact LeO.none _) | (with_reducible refine LeO.ite ?_ ?_) | (with_reducible refine LeO.bind ?_ (fun _=>?_)) | (with_reducible exact impl_DotVectors.mono ..) | (with_reducible exact impl_Identity.mono ..) | (with_reducible exact impl_Inverse.mono ..) | (with_reducible exact impl_Product.mono ..) | (with_reducible exact impl_Solve.mono ..) | (with_reducible exact impl_Times.mono ..) | (with_reducible exact impl_Transposed.mono ..) | (with_reducible exact impl_added.mono ..) | (with_reducible exact impl_cauchy.mono ..) | (with_reducible exact impl_column.mono ..) | (with_reducible exact impl_dot.mono ..) | (with_reducible exact impl_identity.mono ..) | (with_reducible exact impl_power.mono ..) | (with_reducible exact impl_product.mono ..) | (with_reducible exact impl_scaled.mono ..) | (with_reducible exact impl_solve.mono ..) | (with_reducible exact impl_transposed.mono ..) | (with_reducible exact laws_FnMatrices.mono ..) | (with_reducible exact laws_sameMatrices.mono ..) | (with_reducible exact spec_DrawProduct.mono ..) | (with_reducible exact spec_DrawSolve.mono ..) | (with_reducible exact spec_GoodMatrix.mono ..) | (with_reducible exact spec_InverseOf.mono ..) | (with_reducible exact spec_Product.mono ..) | (with_reducible exact spec_RankOf.mono ..) | (with_reducible exact spec_l1Add.mono ..) | (with_reducible exact spec_l1Cur_matrix.mono ..) | (with_reducible exact spec_l1Cur_vector.mono ..) | (with_reducible exact spec_l1Inverse.mono ..) | (with_reducible exact spec_l1Power.mono ..) | (with_reducible exact spec_l1Scale.mono ..) | (with_reducible exact spec_l1Times.mono ..) | (with_reducible exact spec_l2Blank.mono ..) | (with_reducible exact spec_l2Identity.mono ..) | (with_reducible exact spec_l2Own.mono ..) | (with_reducible exact spec_l2Product.mono ..) | exact ih0 .. | exact ih1 .. | exact ih2 .. | exact ih3 .. | exact ih4 .. | exact ih5 .. | exact ih6 .. | exact ih7 .. | exact LeO.none _ | refine LeO.ite ?_ ?_ | refine LeO.bind ?_ (fun _=>?_)) : p:=h
abbrev Y : Bool:=true
abbrev Z : Bool:=false
theorem q1 {α : Type _} (l : List α) (i : Nat) (a : α) : l.toArray.setIfInBounds i a=(l.set i a).toArray:=List.setIfInBounds_toArray ..
theorem q2 {α : Type _} {x : α} {xs : List α} {a : α} : (x :: xs).set 0 a=a :: xs:=rfl
theorem q3 {α : Type _} {x : α} {xs : List α} {i : Nat} {a : α} : (x :: xs).set (i+1) a=x :: xs.set i a:=rfl
theorem am {p : Prop} (h : p) : Aside0 p := Aside0.mk h
theorem pb {B : Nat} {w W : World} (h : Below B w W) (n : Nat) : Below B w (W.drewN n) := pw_below_drewN h n
theorem pd {base : Nat} {w W : World} (h : Below base w W) : Below base w W.drew := below_drew1 h
theorem pa {w W : World} (h : Below w.heap.size w W) (o : Obj) : Below w.heap.size w (W.alloc o) := below_alloc h o
theorem pt {w W : World} {g j : Nat} {v : Value} (h : Below w.heap.size w W) (hg : w.heap.size ≤ g) : Below w.heap.size w (W.setCell ⟨g, j, none⟩ v) := below_set h hg
theorem pz {w W : World} (h : Below w.heap.size w W) : w.heap.size ≤ W.heap.size := below_size h
theorem pu {w W w2 : World} (h : Below w.heap.size w W) (k : Below W.heap.size W w2) : Below w.heap.size w w2 := below_step h k
theorem qa {w : World} {g : Nat} {o : Obj} (h : w.heap[g]? = some o) (o' : Obj) : (w.alloc o').heap[g]? = some o := blk_alloc h o'
theorem qd {w : World} {g : Nat} {o : Obj} (h : w.heap[g]? = some o) : w.drew.heap[g]? = some o := blk_drew h
theorem qb {w w1 : World} {g : Nat} {o : Obj} (h : w.heap[g]? = some o) (hb : Below w.heap.size w w1) : w1.heap[g]? = some o := blk_below h hb
theorem hh {a b c : Sort _} {p : a → b → c → Prop} (x : a) (y : b) (z : c) (h : p x y z) : p x y z := h
theorem q4 {α β : Type _} {f : α → β} {l : List α} : l.toArray.map f = (l.map f).toArray := List.map_toArray ..
theorem q5 {α β : Type _} {f : α → β} {a : α} {l : List α} : (a :: l).map f = f a :: l.map f := rfl
theorem q6 {α β : Type _} {f : α → β} : ([] : List α).map f = [] := rfl
theorem q7 {α : Type _} {i : Nat} {l : List α} : (l.drop i).length = l.length - i := List.length_drop ..
theorem q8 {α : Type _} {i : Nat} {l : List α} : (l.take i).length = min i l.length := List.length_take ..
theorem od {p : Prop} [Decidable p] (e : decide p = true) : p := of_decide_eq_true e
section
variable {P : Program} {md : Region.Mode} {ops : Array Oper} {Q : Exit → Act → World → Prop} {S : World → Prop} {ds : List Nat} {T : Bool × List (List Nat × List Nat)} {B : List Nat}
/-- What has come up, the last first. -/
def lst (n : Nat) : List Nat → Array Bool
  | [] => Array.replicate n false
  | i :: s => (lst n s).setIfInBounds i true
def lsl (n : Nat) : List Nat → List Bool
  | [] => List.replicate n false
  | i :: s => (lsl n s).set i true
theorem lst_l (n : Nat) : ∀ s, (lst n s).toList = lsl n s
  | [] => by simp [lst, lsl]
  | i :: s => by simp [lst, lsl, lst_l n s]
/-- What comes next, in this order. -/
def Todo (r : List (Nat × Nat)) (p : Prop) : Prop := p
theorem rS {id n : Nat} {a : Act} {w : World} (r : List (Nat × Nat)) (hn : ops.size = n) (hm : P.follows .mixedOrders = true) (hT : rtab .any ops = T) (hB : waitsOk T.2 B = true) (hS : S w.drew)
    (h : S w.drew → Aside0 (rtab .any ops = T) → Aside0 (waitsOk T.2 B = true) → Todo r (wpAnyLast P .any ops Q S ds n (lst n []) a w.drew)) : (Code.region id ops true).wp P Q a w :=
  start_ (Array.replicate n false) hm hn rfl hS fun h1 => h h1 ⟨hT⟩ ⟨hB⟩
theorem waits0 (T : List (List Nat × List Nat)) : waitsOk T [] = true := by
  unfold waitsOk
  rw [List.all_eq_true]
  intro d hd
  have hl : d < T.length := by simpa using hd
  rw [List.getElem?_eq_getElem hl]
  simp
/-- A small region none of whose operations stores: the table is the operations' own. -/
theorem rS0 {id n : Nat} {a : Act} {w : World} (r : List (Nat × Nat)) (hn : ops.size = n) (hm : P.follows .mixedOrders = true) (hS : S w.drew)
    (h : S w.drew → Aside0 (rtab .any ops = rtab .any ops) → Aside0 (waitsOk (rtab .any ops).2 [] = true) → Todo r (wpAnyLast P .any ops Q S ds n (lst n []) a w.drew)) : (Code.region id ops true).wp P Q a w :=
  rS r hn hm rfl (waits0 _) hS h
theorem rP {i u : Nat} {oi : Oper} {v : Value} {fuel n : Nat} {s : List Nat} {r : List (Nat × Nat)} {a : Act} {w : World} (hT : Aside0 (rtab md ops = T)) (hi : ops[i]? = some oi) (hN : oi.dst = some u) (hc : anyT T (lsl n s) ((lsl n s).set i true) i = true)
    (hQ : ∀ c a w, Q (.panic c) (a.put oi.dst v) w → Q (.panic c) a w) (hy : Yields P ops oi v a) {a' : Act} (ha : a.put (some u) v = a') (h : Todo r (wpAnyLast P md ops Q S ds fuel (lst n (i :: s)) a' w)) :
    Todo ((i, u) :: r) (wpAnyLast P md ops Q S ds (fuel + 1) (lst n s) a w) :=
  pure_ (lst n (i :: s)) hi hN (any_of hT.out (by rw [lst_l, lst_l]; exact hc)) hQ hy ha h
theorem rT {i u : Nat} {oi : Oper} {v : Value} {fuel n : Nat} {s : List Nat} {r : List (Nat × Nat)} {a : Act} {w : World} (hT : Aside0 (rtab md ops = T)) (hB : Aside0 (waitsOk T.2 B = true)) (hS : S w) (hi : ops[i]? = some oi) (hN : oi.dst = some u) (hc : takeW T B ds (lsl n s) ((lsl n s).set i true) i = true)
    (hQ : ∀ c a w, Q (.panic c) (a.put oi.dst v) w → Q (.panic c) a w) (hy : YieldsIf P ops S oi v a) {a' : Act} (ha : a.put (some u) v = a') (h : Todo r (wpAnyLast P md ops Q S ds fuel (lst n (i :: s)) a' w)) :
    Todo ((i, u) :: r) (wpAnyLast P md ops Q S ds (fuel + 1) (lst n s) a w) :=
  take_ (lst n (i :: s)) hi hN (take_ofW hT.out hB.out (by rw [lst_l, lst_l]; exact hc)) hQ hy hS ha h
theorem rO {i u : Nat} {N : Option Tmp} {oi : Oper} {fuel n : Nat} {s : List Nat} {r : List (Nat × Nat)} {a : Act} {w : World} (hT : Aside0 (rtab md ops = T)) (hi : ops[i]? = some oi) (hN : oi.dst = N) (hc : (readyT T.2 (lsl n s) == [i]) = true) (hd : i ∉ ds)
    (h : ∀ K : Act → World → Prop, Shut (∀ a' w', S w' → (S w' → Todo r (wpAnyLast P md ops Q S ds fuel (lst n (i :: s)) a' w')) → K a' w') → if Region.wanted oi (yielded ops a.tmps) = true then Oper.wp P oi a w K Q else K (a.put N undef) w) :
    Todo ((i, u) :: r) (wpAnyLast P md ops Q S ds (fuel + 1) (lst n s) a w) :=
  one_ (lst n (i :: s)) hi hN (one_of hT.out (by rw [lst_l, lst_l, hc]; show (true && ((lsl n s).set i true == (lsl n s).set i true)) = true; simp)) hd h
theorem rL {i u : Nat} {N : Option Tmp} {oi : Oper} {fuel n : Nat} {s : List Nat} {r : List (Nat × Nat)} {a : Act} {w : World} (hT : Aside0 (rtab md ops = T)) (hi : ops[i]? = some oi) (hN : oi.dst = N) (hc : (readyT T.2 (lsl n s) == [i]) = true) (hd : i ∈ ds)
    (h : ∀ K : Act → World → Prop, Shut (∀ a' w', Todo r (wpAnyLast P md ops Q S ds fuel (lst n (i :: s)) a' w') → K a' w') → if Region.wanted oi (yielded ops a.tmps) = true then Oper.wp P oi a w K Q else K (a.put N undef) w) :
    Todo ((i, u) :: r) (wpAnyLast P md ops Q S ds (fuel + 1) (lst n s) a w) :=
  last_ (lst n (i :: s)) hi hN (one_of hT.out (by rw [lst_l, lst_l, hc]; show (true && ((lsl n s).set i true == (lsl n s).set i true)) = true; simp)) hd h
theorem rD {s : List Nat} {a : Act} {w : World} {k n : Nat} (hT : Aside0 (rtab md ops = T)) (hc : (readyT T.2 (lsl n s) == []) = true) (h : Q .normal a w) : Todo [] (wpAnyLast P md ops Q S ds k (lst n s) a w) :=
  done_ (done_of hT.out (by rw [lst_l]; exact hc)) h
theorem nA (N:Nat) {a a':Act} {v:Value} (h:Act.put a (some N) v=a':=by simp only [Act.put,q1,q2,q3,i64_w,i32_w];rfl):Act.put a (some N) v=a':=h
theorem rN {r : List (Nat × Nat)} {fuel : Nat} {l : Array Bool} {a a' : Act} {w : World} (ha : a = a') (h : Todo r (wpAnyLast P md ops Q S ds fuel l a' w)) : Todo r (wpAnyLast P md ops Q S ds fuel l a w) := norm_ ha h
end
/-- All steps that only yield. -/
theorem rR {p q : Prop} (hq : q) (h : q → p := by
  intro hq_
  repeat first
    | (refine rP HT_ rfl rfl (by kernel_rfl) hh (Or.inl ⟨by rfl, by intro w'; go_simp; with_reducible rfl⟩) (by simp only [Act.put, q1, q2, q3, i64_w, i32_w]; rfl) ?_)
    | (refine rP (v := undef) HT_ rfl rfl (by kernel_rfl) hh (Or.inr ⟨by rfl, rfl⟩) (by simp only [Act.put, q1, q2, q3, i64_w, i32_w]; rfl) ?_)
    | (refine rT HT_ HW_ hHeld rfl rfl (by kernel_rfl) hh (Or.inl ⟨by rfl, by intro w' hs; (repeat (have s_ := hs.1; replace hs := hs.2)); go_simp; with_reducible rfl⟩) (by simp only [Act.put, q1, q2, q3, i64_w, i32_w]; rfl) ?_)
  exact hq_) : p := h hq
theorem D0 {p : Prop} (h : p := by first|rfl|(simp [errW_none,errW_some] <;> rfl)|(simp [*,errW_none,errW_some] <;> rfl)) : p := h
theorem D1 {p : Prop} (h : p := by first|(with_reducible assumption)|assumption) : p := h
theorem D2 {p : Prop} (h : p := by first|rfl|(simp;done)|(simp [*];done)) : p := h
theorem D3 {p : Prop} (h : p := by kernel_rfl) : p := h
theorem D4 {p : Prop} (h : p := by repeat (first|(with_reducible first|exact HK.out|apply KeepBut.set_|apply keep_drewN|apply keep_drew|apply keep_alloc)|exact HK.out)) : p := h
theorem D5 {p : Prop} (h : p := by first|exact Kd.N_base ho0|exact Kd.S_base ho0|exact Kd.R_base ho0) : p := h
theorem D6 {p : Prop} (h : p := by repeat (first|(with_reducible first|exact HK.out|apply KeepBut.set_|apply keep_drewN|apply keep_drew|apply keep_alloc|refine keep_far ?_ GW133.out _|refine keep_far ?_ GW134.out _)|exact HK.out)) : p := h
theorem D7 {p : Prop} (h : p := by repeat (first|(with_reducible first|exact HI0.out|apply IsS180.alloc|apply IsS180.drewN|apply IsS180.drew|apply IsS180.set_1|apply IsS180.set_2|refine IsS180.far ?_ NB0_133.out _|refine IsS180.far ?_ NB0_134.out _)|exact HI0.out)) : p := h
theorem D8 {p : Prop} (h : p := by repeat (first|(with_reducible first|exact HI0.out|apply IsS180.alloc|apply IsS180.drewN|apply IsS180.drew|apply IsS180.set_1|apply IsS180.set_2)|exact HI0.out)) : p := h
theorem D9 {p : Prop} (h : p := by repeat (first|(with_reducible first|exact HK.out|apply KeepBut.set_|apply keep_drewN|apply keep_drew|apply keep_alloc|refine keep_far ?_ GW145.out _|refine keep_far ?_ GW146.out _)|exact HK.out)) : p := h
theorem D10 {p : Prop} (h : p := by repeat (first|(with_reducible first|exact HB.out|apply pa|apply pb|apply pd|refine pt ?_ (IsS180.ge HI0.out))|exact HB.out)) : p := h
theorem D11 {p : Prop} (h : p := by refine sN ?_;exact Kd.N_mono (Kd.N_far (p:=⟨gb452,0,none⟩) (Kd.N_mono HO_432000.out (fun k_ hk=>(⟨hk,hk.2⟩:_∧k_ ≠ gb452))) (fun _ hk=>hk.2) (.slice Ao331 t448.length co331)) (fun _ hk=>⟨hk.1.1.1.1.1.1.1.1.1.1,⟨hk.1.1.1.1.1.1.1.1.1.2.1,⟨hk.1.1.1.1.1.1.1.1.1.2.2.1,⟨hk.1.1.1.1.1.1.1.1.1.2.2.2.1,⟨hk.1.1.1.1.1.1.1.1.1.2.2.2.2.1,⟨hk.1.1.1.1.1.1.1.1.1.2.2.2.2.2.1,⟨hk.1.1.1.1.1.1.1.1.2,⟨hk.1.1.1.1.1.1.2,⟨hk.1.1.1.1.2,⟨hk.1.1.2,⟨hk.1.1.1.1.1.1.1.1.1.2.2.2.2.2.2.1,⟨hk.1.1.1.1.1.1.1.1.1.2.2.2.2.2.2.2.1,⟨hk.1.1.1.1.1.1.1.1.1.2.2.2.2.2.2.2.2.1,⟨hk.1.1.1.1.1.1.1.1.1.2.2.2.2.2.2.2.2.2.1,⟨hk.1.1.1.1.1.1.1.1.1.2.2.2.2.2.2.2.2.2.2.1,⟨hk.1.1.1.1.1.1.1.1.1.2.2.2.2.2.2.2.2.2.2.2.1,⟨hk.1.1.1.1.1.1.1.1.1.2.2.2.2.2.2.2.2.2.2.2.2,⟨hk.1.1.1.1.1.1.1.2,⟨hk.1.1.1.1.1.2,⟨hk.1.1.1.2,hk.1.2⟩⟩⟩⟩⟩⟩⟩⟩⟩⟩⟩⟩⟩⟩⟩⟩⟩⟩⟩⟩)) : p := h
theorem D12 {p : Prop} (h : p := by refine sN ?_;exact Kd.N_mono (Kd.N_far (p:=⟨gb452,0,none⟩) (Kd.N_mono HO_427000.out (fun k_ hk=>(⟨hk,hk.2⟩:_∧k_ ≠ gb452))) (fun _ hk=>hk.2) (.slice Ao331 t448.length co331)) (fun _ hk=>⟨hk.1.1.1.1.1.1.1.1.1.1,⟨hk.1.1.1.1.1.1.1.1.1.2.1,⟨hk.1.1.1.1.1.1.1.1.1.2.2.1,⟨hk.1.1.1.1.1.1.1.1.1.2.2.2.1,⟨hk.1.1.1.1.1.1.1.1.1.2.2.2.2.1,⟨hk.1.1.1.1.1.1.1.1.1.2.2.2.2.2.1,⟨hk.1.1.1.1.1.1.1.1.2,⟨hk.1.1.1.1.1.1.2,⟨hk.1.1.1.1.2,⟨hk.1.1.2,⟨hk.1.1.1.1.1.1.1.1.1.2.2.2.2.2.2.1,⟨hk.1.1.1.1.1.1.1.1.1.2.2.2.2.2.2.2.1,⟨hk.1.1.1.1.1.1.1.1.1.2.2.2.2.2.2.2.2.1,⟨hk.1.1.1.1.1.1.1.1.1.2.2.2.2.2.2.2.2.2.1,⟨hk.1.1.1.1.1.1.1.1.1.2.2.2.2.2.2.2.2.2.2.1,⟨hk.1.1.1.1.1.1.1.1.1.2.2.2.2.2.2.2.2.2.2.2.1,⟨hk.1.1.1.1.1.1.1.1.1.2.2.2.2.2.2.2.2.2.2.2.2,⟨hk.1.1.1.1.1.1.1.2,⟨hk.1.1.1.1.1.2,⟨hk.1.1.1.2,hk.1.2⟩⟩⟩⟩⟩⟩⟩⟩⟩⟩⟩⟩⟩⟩⟩⟩⟩⟩⟩⟩)) : p := h
theorem D13 {p : Prop} (h : p := by refine sN ?_;exact Kd.N_mono (Kd.N_far (p:=⟨gb452,0,none⟩) (Kd.N_mono HO_422000.out (fun k_ hk=>(⟨hk,hk.2⟩:_∧k_ ≠ gb452))) (fun _ hk=>hk.2) (.slice Ao331 t448.length co331)) (fun _ hk=>⟨hk.1.1.1.1.1.1.1.1.1.1,⟨hk.1.1.1.1.1.1.1.1.1.2.1,⟨hk.1.1.1.1.1.1.1.1.1.2.2.1,⟨hk.1.1.1.1.1.1.1.1.1.2.2.2.1,⟨hk.1.1.1.1.1.1.1.1.1.2.2.2.2.1,⟨hk.1.1.1.1.1.1.1.1.1.2.2.2.2.2.1,⟨hk.1.1.1.1.1.1.1.1.2,⟨hk.1.1.1.1.1.1.2,⟨hk.1.1.1.1.2,⟨hk.1.1.2,⟨hk.1.1.1.1.1.1.1.1.1.2.2.2.2.2.2.1,⟨hk.1.1.1.1.1.1.1.1.1.2.2.2.2.2.2.2.1,⟨hk.1.1.1.1.1.1.1.1.1.2.2.2.2.2.2.2.2.1,⟨hk.1.1.1.1.1.1.1.1.1.2.2.2.2.2.2.2.2.2.1,⟨hk.1.1.1.1.1.1.1.1.1.2.2.2.2.2.2.2.2.2.2.1,⟨hk.1.1.1.1.1.1.1.1.1.2.2.2.2.2.2.2.2.2.2.2.1,⟨hk.1.1.1.1.1.1.1.1.1.2.2.2.2.2.2.2.2.2.2.2.2,⟨hk.1.1.1.1.1.1.1.2,⟨hk.1.1.1.1.1.2,⟨hk.1.1.1.2,hk.1.2⟩⟩⟩⟩⟩⟩⟩⟩⟩⟩⟩⟩⟩⟩⟩⟩⟩⟩⟩⟩)) : p := h
theorem D14 {p : Prop} (h : p := by refine sN ?_;exact Kd.N_mono (Kd.N_far (p:=⟨gb452,0,none⟩) (Kd.N_mono HO_421000.out (fun k_ hk=>(⟨hk,hk.2⟩:_∧k_ ≠ gb452))) (fun _ hk=>hk.2) (.slice Ao331 t448.length co331)) (fun _ hk=>⟨hk.1.1.1.1.1.1.1.1.1.1,⟨hk.1.1.1.1.1.1.1.1.1.2.1,⟨hk.1.1.1.1.1.1.1.1.1.2.2.1,⟨hk.1.1.1.1.1.1.1.1.1.2.2.2.1,⟨hk.1.1.1.1.1.1.1.1.1.2.2.2.2.1,⟨hk.1.1.1.1.1.1.1.1.1.2.2.2.2.2.1,⟨hk.1.1.1.1.1.1.1.1.2,⟨hk.1.1.1.1.1.1.2,⟨hk.1.1.1.1.2,⟨hk.1.1.2,⟨hk.1.1.1.1.1.1.1.1.1.2.2.2.2.2.2.1,⟨hk.1.1.1.1.1.1.1.1.1.2.2.2.2.2.2.2.1,⟨hk.1.1.1.1.1.1.1.1.1.2.2.2.2.2.2.2.2.1,⟨hk.1.1.1.1.1.1.1.1.1.2.2.2.2.2.2.2.2.2.1,⟨hk.1.1.1.1.1.1.1.1.1.2.2.2.2.2.2.2.2.2.2.1,⟨hk.1.1.1.1.1.1.1.1.1.2.2.2.2.2.2.2.2.2.2.2.1,⟨hk.1.1.1.1.1.1.1.1.1.2.2.2.2.2.2.2.2.2.2.2.2,⟨hk.1.1.1.1.1.1.1.2,⟨hk.1.1.1.1.1.2,⟨hk.1.1.1.2,hk.1.2⟩⟩⟩⟩⟩⟩⟩⟩⟩⟩⟩⟩⟩⟩⟩⟩⟩⟩⟩⟩)) : p := h
theorem D15 {p : Prop} (h : p := by refine sN ?_;exact Kd.N_mono (Kd.N_far (p:=⟨gb452,0,none⟩) (Kd.N_mono HO_375000.out (fun k_ hk=>(⟨hk,hk.2⟩:_∧k_ ≠ gb452))) (fun _ hk=>hk.2) (.slice Ao331 t448.length co331)) (fun _ hk=>⟨hk.1.1.1.1.1.1.1.1.1.1,⟨hk.1.1.1.1.1.1.1.1.1.2.1,⟨hk.1.1.1.1.1.1.1.1.1.2.2.1,⟨hk.1.1.1.1.1.1.1.1.1.2.2.2.1,⟨hk.1.1.1.1.1.1.1.1.1.2.2.2.2.1,⟨hk.1.1.1.1.1.1.1.1.1.2.2.2.2.2.1,⟨hk.1.1.1.1.1.1.1.1.2,⟨hk.1.1.1.1.1.1.2,⟨hk.1.1.1.1.2,⟨hk.1.1.2,⟨hk.1.1.1.1.1.1.1.1.1.2.2.2.2.2.2.1,⟨hk.1.1.1.1.1.1.1.1.1.2.2.2.2.2.2.2.1,⟨hk.1.1.1.1.1.1.1.1.1.2.2.2.2.2.2.2.2.1,⟨hk.1.1.1.1.1.1.1.1.1.2.2.2.2.2.2.2.2.2.1,⟨hk.1.1.1.1.1.1.1.1.1.2.2.2.2.2.2.2.2.2.2.1,⟨hk.1.1.1.1.1.1.1.1.1.2.2.2.2.2.2.2.2.2.2.2.1,⟨hk.1.1.1.1.1.1.1.1.1.2.2.2.2.2.2.2.2.2.2.2.2,⟨hk.1.1.1.1.1.1.1.2,⟨hk.1.1.1.1.1.2,⟨hk.1.1.1.2,hk.1.2⟩⟩⟩⟩⟩⟩⟩⟩⟩⟩⟩⟩⟩⟩⟩⟩⟩⟩⟩⟩)) : p := h
theorem D16 {p : Prop} (h : p := by refine sN ?_;exact Kd.N_mono (Kd.N_far (p:=⟨gb452,0,none⟩) (Kd.N_mono HO_370000.out (fun k_ hk=>(⟨hk,hk.2⟩:_∧k_ ≠ gb452))) (fun _ hk=>hk.2) (.slice Ao331 t448.length co331)) (fun _ hk=>⟨hk.1.1.1.1.1.1.1.1.1.1,⟨hk.1.1.1.1.1.1.1.1.1.2.1,⟨hk.1.1.1.1.1.1.1.1.1.2.2.1,⟨hk.1.1.1.1.1.1.1.1.1.2.2.2.1,⟨hk.1.1.1.1.1.1.1.1.1.2.2.2.2.1,⟨hk.1.1.1.1.1.1.1.1.1.2.2.2.2.2.1,⟨hk.1.1.1.1.1.1.1.1.2,⟨hk.1.1.1.1.1.1.2,⟨hk.1.1.1.1.2,⟨hk.1.1.2,⟨hk.1.1.1.1.1.1.1.1.1.2.2.2.2.2.2.1,⟨hk.1.1.1.1.1.1.1.1.1.2.2.2.2.2.2.2.1,⟨hk.1.1.1.1.1.1.1.1.1.2.2.2.2.2.2.2.2.1,⟨hk.1.1.1.1.1.1.1.1.1.2.2.2.2.2.2.2.2.2.1,⟨hk.1.1.1.1.1.1.1.1.1.2.2.2.2.2.2.2.2.2.2.1,⟨hk.1.1.1.1.1.1.1.1.1.2.2.2.2.2.2.2.2.2.2.2.1,⟨hk.1.1.1.1.1.1.1.1.1.2.2.2.2.2.2.2.2.2.2.2.2,⟨hk.1.1.1.1.1.1.1.2,⟨hk.1.1.1.1.1.2,⟨hk.1.1.1.2,hk.1.2⟩⟩⟩⟩⟩⟩⟩⟩⟩⟩⟩⟩⟩⟩⟩⟩⟩⟩⟩⟩)) : p := h
theorem D17 {p : Prop} (h : p := by refine sN ?_;exact Kd.N_mono (Kd.N_far (p:=⟨gb452,0,none⟩) (Kd.N_mono HO_365000.out (fun k_ hk=>(⟨hk,hk.2⟩:_∧k_ ≠ gb452))) (fun _ hk=>hk.2) (.slice Ao331 t448.length co331)) (fun _ hk=>⟨hk.1.1.1.1.1.1.1.1.1.1,⟨hk.1.1.1.1.1.1.1.1.1.2.1,⟨hk.1.1.1.1.1.1.1.1.1.2.2.1,⟨hk.1.1.1.1.1.1.1.1.1.2.2.2.1,⟨hk.1.1.1.1.1.1.1.1.1.2.2.2.2.1,⟨hk.1.1.1.1.1.1.1.1.1.2.2.2.2.2.1,⟨hk.1.1.1.1.1.1.1.1.2,⟨hk.1.1.1.1.1.1.2,⟨hk.1.1.1.1.2,⟨hk.1.1.2,⟨hk.1.1.1.1.1.1.1.1.1.2.2.2.2.2.2.1,⟨hk.1.1.1.1.1.1.1.1.1.2.2.2.2.2.2.2.1,⟨hk.1.1.1.1.1.1.1.1.1.2.2.2.2.2.2.2.2.1,⟨hk.1.1.1.1.1.1.1.1.1.2.2.2.2.2.2.2.2.2.1,⟨hk.1.1.1.1.1.1.1.1.1.2.2.2.2.2.2.2.2.2.2.1,⟨hk.1.1.1.1.1.1.1.1.1.2.2.2.2.2.2.2.2.2.2.2.1,⟨hk.1.1.1.1.1.1.1.1.1.2.2.2.2.2.2.2.2.2.2.2.2,⟨hk.1.1.1.1.1.1.1.2,⟨hk.1.1.1.1.1.2,⟨hk.1.1.1.2,hk.1.2⟩⟩⟩⟩⟩⟩⟩⟩⟩⟩⟩⟩⟩⟩⟩⟩⟩⟩⟩⟩)) : p := h
theorem D18 {p : Prop} (h : p := by refine sN ?_;exact Kd.N_mono (Kd.N_far (p:=⟨gb452,0,none⟩) (Kd.N_mono HO450.out (fun k_ hk=>(⟨hk,hk.2⟩:_∧k_ ≠ gb452))) (fun _ hk=>hk.2) (.slice Ao331 t448.length co331)) (fun _ hk=>⟨hk.1.1.1,⟨hk.1.1.2.1,⟨hk.1.1.2.2.1,⟨hk.1.1.2.2.2.1,⟨hk.1.1.2.2.2.2.1,⟨hk.1.1.2.2.2.2.2.1,⟨hk.1.1.2.2.2.2.2.2.1,⟨hk.1.1.2.2.2.2.2.2.2.1,⟨hk.1.1.2.2.2.2.2.2.2.2.1,⟨hk.1.1.2.2.2.2.2.2.2.2.2.1,⟨hk.1.1.2.2.2.2.2.2.2.2.2.2.1,⟨hk.1.1.2.2.2.2.2.2.2.2.2.2.2.1,⟨hk.1.1.2.2.2.2.2.2.2.2.2.2.2.2.1,⟨hk.1.1.2.2.2.2.2.2.2.2.2.2.2.2.2.1,⟨hk.1.1.2.2.2.2.2.2.2.2.2.2.2.2.2.2.1,⟨hk.1.1.2.2.2.2.2.2.2.2.2.2.2.2.2.2.2.1,⟨hk.1.1.2.2.2.2.2.2.2.2.2.2.2.2.2.2.2.2.1,⟨hk.1.1.2.2.2.2.2.2.2.2.2.2.2.2.2.2.2.2.2.1,⟨hk.1.1.2.2.2.2.2.2.2.2.2.2.2.2.2.2.2.2.2.2.1,⟨hk.1.1.2.2.2.2.2.2.2.2.2.2.2.2.2.2.2.2.2.2.2,hk.1.2⟩⟩⟩⟩⟩⟩⟩⟩⟩⟩⟩⟩⟩⟩⟩⟩⟩⟩⟩⟩)) : p := h
theorem D19 {p : Prop} (h : p := by refine sN ?_;exact Kd.N_mono (Kd.N_far (p:=⟨gb452,0,none⟩) (Kd.N_mono HO445.out (fun k_ hk=>(⟨hk,hk.2⟩:_∧k_ ≠ gb452))) (fun _ hk=>hk.2) (.slice Ao331 t448.length co331)) (fun _ hk=>⟨hk.1.1.1.1.1,⟨hk.1.1.1.1.2.1,⟨hk.1.1.1.1.2.2.1,⟨hk.1.1.1.1.2.2.2.1,⟨hk.1.1.1.1.2.2.2.2.1,⟨hk.1.1.1.1.2.2.2.2.2.1,⟨hk.1.1.1.1.2.2.2.2.2.2.1,⟨hk.1.1.1.1.2.2.2.2.2.2.2.1,⟨hk.1.1.1.1.2.2.2.2.2.2.2.2.1,⟨hk.1.1.2,⟨hk.1.1.1.1.2.2.2.2.2.2.2.2.2.1,⟨hk.1.1.1.1.2.2.2.2.2.2.2.2.2.2.1,⟨hk.1.1.1.1.2.2.2.2.2.2.2.2.2.2.2.1,⟨hk.1.1.1.1.2.2.2.2.2.2.2.2.2.2.2.2.1,⟨hk.1.1.1.1.2.2.2.2.2.2.2.2.2.2.2.2.2.1,⟨hk.1.1.1.1.2.2.2.2.2.2.2.2.2.2.2.2.2.2.1,⟨hk.1.1.1.1.2.2.2.2.2.2.2.2.2.2.2.2.2.2.2.1,⟨hk.1.1.1.1.2.2.2.2.2.2.2.2.2.2.2.2.2.2.2.2.1,⟨hk.1.1.1.1.2.2.2.2.2.2.2.2.2.2.2.2.2.2.2.2.2,⟨hk.1.1.1.2,hk.1.2⟩⟩⟩⟩⟩⟩⟩⟩⟩⟩⟩⟩⟩⟩⟩⟩⟩⟩⟩⟩)) : p := h
theorem D20 {p : Prop} (h : p := by refine sN ?_;exact Kd.N_mono (Kd.N_far (p:=⟨gb452,0,none⟩) (Kd.N_mono HO440.out (fun k_ hk=>(⟨hk,hk.2⟩:_∧k_ ≠ gb452))) (fun _ hk=>hk.2) (.slice Ao331 t448.length co331)) (fun _ hk=>⟨hk.1.1.1.1.1.1.1,⟨hk.1.1.1.1.1.1.2.1,⟨hk.1.1.1.1.1.1.2.2.1,⟨hk.1.1.1.1.1.1.2.2.2.1,⟨hk.1.1.1.1.1.1.2.2.2.2.1,⟨hk.1.1.1.1.1.1.2.2.2.2.2.1,⟨hk.1.1.1.1.1.1.2.2.2.2.2.2.1,⟨hk.1.1.1.1.1.1.2.2.2.2.2.2.2.1,⟨hk.1.1.1.1.2,⟨hk.1.1.2,⟨hk.1.1.1.1.1.1.2.2.2.2.2.2.2.2.1,⟨hk.1.1.1.1.1.1.2.2.2.2.2.2.2.2.2.1,⟨hk.1.1.1.1.1.1.2.2.2.2.2.2.2.2.2.2.1,⟨hk.1.1.1.1.1.1.2.2.2.2.2.2.2.2.2.2.2.1,⟨hk.1.1.1.1.1.1.2.2.2.2.2.2.2.2.2.2.2.2.1,⟨hk.1.1.1.1.1.1.2.2.2.2.2.2.2.2.2.2.2.2.2.1,⟨hk.1.1.1.1.1.1.2.2.2.2.2.2.2.2.2.2.2.2.2.2.1,⟨hk.1.1.1.1.1.1.2.2.2.2.2.2.2.2.2.2.2.2.2.2.2,⟨hk.1.1.1.1.1.2,⟨hk.1.1.1.2,hk.1.2⟩⟩⟩⟩⟩⟩⟩⟩⟩⟩⟩⟩⟩⟩⟩⟩⟩⟩⟩⟩)) : p := h
theorem D21 {p : Prop} (h : p := by refine sN ?_;exact Kd.N_mono (Kd.N_far (p:=⟨gb452,0,none⟩) (Kd.N_mono HO435.out (fun k_ hk=>(⟨hk,hk.2⟩:_∧k_ ≠ gb452))) (fun _ hk=>hk.2) (.slice Ao331 t448.length co331)) (fun _ hk=>⟨hk.1.1.1.1.1.1.1.1.1,⟨hk.1.1.1.1.1.1.1.1.2.1,⟨hk.1.1.1.1.1.1.1.1.2.2.1,⟨hk.1.1.1.1.1.1.1.1.2.2.2.1,⟨hk.1.1.1.1.1.1.1.1.2.2.2.2.1,⟨hk.1.1.1.1.1.1.1.1.2.2.2.2.2.1,⟨hk.1.1.1.1.1.1.1.1.2.2.2.2.2.2.1,⟨hk.1.1.1.1.1.1.2,⟨hk.1.1.1.1.2,⟨hk.1.1.2,⟨hk.1.1.1.1.1.1.1.1.2.2.2.2.2.2.2.1,⟨hk.1.1.1.1.1.1.1.1.2.2.2.2.2.2.2.2.1,⟨hk.1.1.1.1.1.1.1.1.2.2.2.2.2.2.2.2.2.1,⟨hk.1.1.1.1.1.1.1.1.2.2.2.2.2.2.2.2.2.2.1,⟨hk.1.1.1.1.1.1.1.1.2.2.2.2.2.2.2.2.2.2.2.1,⟨hk.1.1.1.1.1.1.1.1.2.2.2.2.2.2.2.2.2.2.2.2.1,⟨hk.1.1.1.1.1.1.1.1.2.2.2.2.2.2.2.2.2.2.2.2.2,⟨hk.1.1.1.1.1.1.1.2,⟨hk.1.1.1.1.1.2,⟨hk.1.1.1.2,hk.1.2⟩⟩⟩⟩⟩⟩⟩⟩⟩⟩⟩⟩⟩⟩⟩⟩⟩⟩⟩⟩)) : p := h
theorem D22 {p : Prop} (h : p := by repeat (first|(with_reducible first|exact HB.out|apply pa|apply pb|apply pd|refine pt ?_ (IsS180.ge HI0.out)|refine pt ?_ GE133.out|refine pt ?_ GE134.out)|exact HB.out)) : p := h
theorem D23 {p : Prop} (h : p := by omega) : p := h
theorem D24 {p : Prop} (h : p := by decide) : p := h
theorem D25 {p : Prop} (h : p := by first|exact Kd.S_nil _ _ _ _ _|exact Kd.N_nil _ _ _ _ _|exact Kd.V_nil _ _ _ _ _|exact Kd.Q_nil _ _ _ _ _|exact Kd.R_nil _ _ _ _ _) : p := h
theorem D26 {p : Prop} (h : p := by repeat (first|(with_reducible first|exact HK.out|apply KeepBut.set_|apply keep_drewN|apply keep_drew|apply keep_alloc|refine keep_far ?_ GW145.out _)|exact HK.out)) : p := h
theorem D27 {p : Prop} (h : p := by (try simp only [q4,q5,q6]);first|done|rfl|(simp only [q7,q8];rfl)) : p := h
theorem D28 {p : Prop} (h : p := by refine sN ?_;exact Kd.N_mono HO_375000.out (fun _ hk=>⟨hk.1.1.1.1.1.1.1.1,⟨hk.2,⟨hk.1.1.1.1.1.1.1.2.1,⟨hk.1.1.1.1.1.1.1.2.2.1,⟨hk.1.1.1.1.1.1.2,⟨hk.1.1.1.1.2,⟨hk.1.1.2,⟨hk.1.1.1.1.1.1.1.2.2.2.1,⟨hk.1.1.1.1.1.1.1.2.2.2.2.1,⟨hk.1.1.1.1.1.1.1.2.2.2.2.2,⟨hk.1.1.1.1.1.2,⟨hk.1.1.1.2,hk.1.2⟩⟩⟩⟩⟩⟩⟩⟩⟩⟩⟩⟩)) : p := h
theorem D29 {p : Prop} (h : p := by refine sN ?_;exact Kd.N_mono HO_370000.out (fun _ hk=>⟨hk.1.1.1.1.1.1.1.1,⟨hk.2,⟨hk.1.1.1.1.1.1.1.2.1,⟨hk.1.1.1.1.1.1.1.2.2.1,⟨hk.1.1.1.1.1.1.2,⟨hk.1.1.1.1.2,⟨hk.1.1.2,⟨hk.1.1.1.1.1.1.1.2.2.2.1,⟨hk.1.1.1.1.1.1.1.2.2.2.2.1,⟨hk.1.1.1.1.1.1.1.2.2.2.2.2,⟨hk.1.1.1.1.1.2,⟨hk.1.1.1.2,hk.1.2⟩⟩⟩⟩⟩⟩⟩⟩⟩⟩⟩⟩)) : p := h
theorem D30 {p : Prop} (h : p := by refine sN ?_;exact Kd.N_mono HO_365000.out (fun _ hk=>⟨hk.1.1.1.1.1.1.1.1,⟨hk.2,⟨hk.1.1.1.1.1.1.1.2.1,⟨hk.1.1.1.1.1.1.1.2.2.1,⟨hk.1.1.1.1.1.1.2,⟨hk.1.1.1.1.2,⟨hk.1.1.2,⟨hk.1.1.1.1.1.1.1.2.2.2.1,⟨hk.1.1.1.1.1.1.1.2.2.2.2.1,⟨hk.1.1.1.1.1.1.1.2.2.2.2.2,⟨hk.1.1.1.1.1.2,⟨hk.1.1.1.2,hk.1.2⟩⟩⟩⟩⟩⟩⟩⟩⟩⟩⟩⟩)) : p := h
theorem D31 {p : Prop} (h : p := by refine sN ?_;exact Kd.N_mono HO401.out (fun _ hk=>⟨hk.1.1.1,⟨hk.2,⟨hk.1.1.2.1,⟨hk.1.1.2.2.1,⟨hk.1.1.2.2.2.1,⟨hk.1.1.2.2.2.2.1,⟨hk.1.1.2.2.2.2.2.1,⟨hk.1.1.2.2.2.2.2.2.1,⟨hk.1.1.2.2.2.2.2.2.2.1,⟨hk.1.1.2.2.2.2.2.2.2.2.1,⟨hk.1.1.2.2.2.2.2.2.2.2.2.1,⟨hk.1.1.2.2.2.2.2.2.2.2.2.2,hk.1.2⟩⟩⟩⟩⟩⟩⟩⟩⟩⟩⟩⟩)) : p := h
theorem D32 {p : Prop} (h : p := by refine sN ?_;exact Kd.N_mono HO396.out (fun _ hk=>⟨hk.1.1.1.1.1,⟨hk.2,⟨hk.1.1.1.1.2.1,⟨hk.1.1.1.1.2.2.1,⟨hk.1.1.1.1.2.2.2.1,⟨hk.1.1.1.1.2.2.2.2.1,⟨hk.1.1.2,⟨hk.1.1.1.1.2.2.2.2.2.1,⟨hk.1.1.1.1.2.2.2.2.2.2.1,⟨hk.1.1.1.1.2.2.2.2.2.2.2.1,⟨hk.1.1.1.1.2.2.2.2.2.2.2.2,⟨hk.1.1.1.2,hk.1.2⟩⟩⟩⟩⟩⟩⟩⟩⟩⟩⟩⟩)) : p := h
theorem D33 {p : Prop} (h : p := by refine sN ?_;exact Kd.N_mono HO391.out (fun _ hk=>⟨hk.1.1.1.1.1.1.1,⟨hk.2,⟨hk.1.1.1.1.1.1.2.1,⟨hk.1.1.1.1.1.1.2.2.1,⟨hk.1.1.1.1.1.1.2.2.2.1,⟨hk.1.1.1.1.2,⟨hk.1.1.2,⟨hk.1.1.1.1.1.1.2.2.2.2.1,⟨hk.1.1.1.1.1.1.2.2.2.2.2.1,⟨hk.1.1.1.1.1.1.2.2.2.2.2.2,⟨hk.1.1.1.1.1.2,⟨hk.1.1.1.2,hk.1.2⟩⟩⟩⟩⟩⟩⟩⟩⟩⟩⟩⟩)) : p := h
theorem D34 {p : Prop} (h : p := by repeat (first|exact Drawn0.refl _|apply Drawn0.step)) : p := h
theorem D35 {p : Prop} (h : p := by rfl) : p := h
theorem D36 {p : Prop} (h : p := by (try simp only [q4,q5,q6]);first|done|rfl|(go_simp;done)|(simp only [q7,q8];rfl)) : p := h
theorem D37 {p : Prop} (h : p := by first|exact Kd.R_nil _ _ _ _ _|exact Kd.N_nil _ _ _ _ _|exact Kd.V_nil _ _ _ _ _|exact Kd.Q_nil _ _ _ _ _|exact Kd.S_nil _ _ _ _ _) : p := h
theorem D38 {p : Prop} (h : p := by refine sN ?_;exact (Kd.N_mono (Kd.N_mono (Kd.N_far (p:=⟨gb421,0,none⟩) (Kd.N_far (p:=⟨gb420,0,none⟩) (Kd.N_mono (Kd.N_mono HO419.out (fun k_ hk=>(⟨hk,hk.1.2⟩:_∧k_ ≠ gb420))) (fun k_ hk=>(⟨hk,hk.1.2⟩:_∧k_ ≠ gb421))) (fun _ hk=>hk.1.2) (.slice Ao219 t414.length co219)) (fun _ hk=>hk.2) (.slice Ao225 t417.length co225)) (fun _ h_=>h_.1)) (fun _ h_=>h_.1))) : p := h
theorem D39 {p : Prop} (h : p := by refine sN ?_;exact (Kd.N_mono (Kd.N_mono (Kd.N_far (p:=⟨gb421,0,none⟩) (Kd.N_far (p:=⟨gb420,0,none⟩) (Kd.N_mono (Kd.N_mono HO416.out (fun k_ hk=>(⟨hk,hk.1.2⟩:_∧k_ ≠ gb420))) (fun k_ hk=>(⟨hk,hk.1.2⟩:_∧k_ ≠ gb421))) (fun _ hk=>hk.1.2) (.slice Ao219 t414.length co219)) (fun _ hk=>hk.2) (.slice Ao225 t417.length co225)) (fun _ h_=>h_.1)) (fun _ h_=>h_.1))) : p := h
theorem D40 {p : Prop} (h : p := by refine sN ?_;exact Kd.N_mono HO_375000.out (fun _ hk=>⟨hk.1.1.1,⟨hk.1.1.2.1,⟨hk.1.1.2.2.1,⟨hk.1.2,⟨hk.1.1.2.2.2.1,⟨hk.1.1.2.2.2.2.1,⟨hk.1.1.2.2.2.2.2,hk.2⟩⟩⟩⟩⟩⟩⟩)) : p := h
theorem D41 {p : Prop} (h : p := by refine sN ?_;exact Kd.N_mono HO_370000.out (fun _ hk=>⟨hk.1.1.1,⟨hk.1.1.2.1,⟨hk.1.1.2.2.1,⟨hk.1.2,⟨hk.1.1.2.2.2.1,⟨hk.1.1.2.2.2.2.1,⟨hk.1.1.2.2.2.2.2,hk.2⟩⟩⟩⟩⟩⟩⟩)) : p := h
theorem D42 {p : Prop} (h : p := by refine sN ?_;exact Kd.N_mono HO_365000.out (fun _ hk=>⟨hk.1.1.1,⟨hk.1.1.2.1,⟨hk.1.1.2.2.1,⟨hk.1.2,⟨hk.1.1.2.2.2.1,⟨hk.1.1.2.2.2.2.1,⟨hk.1.1.2.2.2.2.2,hk.2⟩⟩⟩⟩⟩⟩⟩)) : p := h
theorem D43 {p : Prop} (h : p := by refine sN ?_;exact Kd.N_mono HO383.out (fun _ hk=>⟨hk.1.1,⟨hk.1.2.1,⟨hk.1.2.2.1,⟨hk.1.2.2.2.1,⟨hk.1.2.2.2.2.1,⟨hk.1.2.2.2.2.2.1,⟨hk.1.2.2.2.2.2.2,hk.2⟩⟩⟩⟩⟩⟩⟩)) : p := h
theorem D44 {p : Prop} (h : p := by repeat (first|exact (by repeat (first|(with_reducible exact HR410_0.out)|(with_reducible refine Kd.C_alloc ?_ _)|(with_reducible refine Kd.C_drewN ?_ _)|(with_reducible refine Kd.C_drew ?_)|exact HR410_0.out))|(with_reducible refine Kd.C_alloc ?_ _)|(with_reducible refine Kd.C_drewN ?_ _)|(with_reducible refine Kd.C_drew ?_))) : p := h
theorem D45 {p : Prop} (h : p := by first|(go_simp;done)|(go_simp;rfl)) : p := h
theorem D46 {p : Prop} (h : p := by refine sN ?_;exact Kd.N_mono HO372.out (fun _ hk=>⟨hk.1.2.1,⟨hk.1.1,⟨hk.1.2.2.1,⟨hk.1.2.2.2.1,⟨hk.1.2.2.2.2,hk.2⟩⟩⟩⟩⟩)) : p := h
theorem D47 {p : Prop} (h : p := by (try simp only [q4,q5,q6]);first|done|rfl|(go_simp;done)) : p := h
theorem D48 {p : Prop} (h : p := by refine sN ?_;exact Kd.N_mono HO367.out (fun _ hk=>⟨hk.1.1.1.2.1,⟨hk.1.1.1.1,⟨hk.1.2,⟨hk.1.1.1.2.2,⟨hk.1.1.2,hk.2⟩⟩⟩⟩⟩)) : p := h
theorem D49 {p : Prop} (h : p := by refine sN ?_;exact Kd.N_mono HO360.out (fun _ hk=>⟨hk.1.1.1.1.1,⟨hk.1.1.1.2,⟨hk.1.2,⟨hk.1.1.1.1.2,⟨hk.1.1.2,hk.2⟩⟩⟩⟩⟩)) : p := h
theorem D50 {p : Prop} (h : p := by have:=HK1.out;omega) : p := h
theorem D51 {p : Prop} (h : p := by repeat (first|(with_reducible first|exact HB.out|apply pa|apply pb|apply pd|refine pt ?_ (IsS180.ge HI0.out)|refine pt ?_ GE145.out)|exact HB.out)) : p := h
theorem D52 {p : Prop} (h : p := by simp) : p := h
theorem D53 {p : Prop} (h : p := by refine sN ?_;exact (Kd.N_mono (Kd.N_far (p:=⟨gb447,0,none⟩) (Kd.N_mono HO_427000.out (fun k_ hk=>(⟨hk,hk.2⟩:_∧k_ ≠ gb447))) (fun _ hk=>hk.2) (.slice Ao313 t443.length co313)) (fun _ h_=>h_.1))) : p := h
theorem D54 {p : Prop} (h : p := by refine sN ?_;exact (Kd.N_mono (Kd.N_far (p:=⟨gb437,0,none⟩) (Kd.N_mono HO_422000.out (fun k_ hk=>(⟨hk,hk.2⟩:_∧k_ ≠ gb437))) (fun _ hk=>hk.2) (.slice Ao283 t433.length co283)) (fun _ h_=>h_.1))) : p := h
theorem D55 {p : Prop} (h : p := by refine sN ?_;exact (Kd.N_mono (Kd.N_far (p:=⟨gb393,0,none⟩) (Kd.N_mono HO_370000.out (fun k_ hk=>(⟨hk,hk.2⟩:_∧k_ ≠ gb393))) (fun _ hk=>hk.2) (.slice Ao107 t389.length co107)) (fun _ h_=>h_.1))) : p := h
theorem D56 {p : Prop} (h : p := by refine sN ?_;exact (Kd.N_mono (Kd.N_far (p:=⟨gb393,0,none⟩) (Kd.N_mono HO_365000.out (fun k_ hk=>(⟨hk,hk.2⟩:_∧k_ ≠ gb393))) (fun _ hk=>hk.2) (.slice Ao107 t389.length co107)) (fun _ h_=>h_.1))) : p := h
theorem D57 {p : Prop} (h : p := by refine sN ?_;exact (Kd.N_mono (Kd.N_far (p:=⟨gb442,0,none⟩) (Kd.N_mono HO440.out (fun k_ hk=>(⟨hk,hk.2⟩:_∧k_ ≠ gb442))) (fun _ hk=>hk.2) (.slice Ao300 t438.length co300)) (fun _ h_=>h_.1))) : p := h
theorem D58 {p : Prop} (h : p := by refine sN ?_;exact (Kd.N_mono (Kd.N_far (p:=⟨gb442,0,none⟩) (Kd.N_mono HO435.out (fun k_ hk=>(⟨hk,hk.2⟩:_∧k_ ≠ gb442))) (fun _ hk=>hk.2) (.slice Ao300 t438.length co300)) (fun _ h_=>h_.1))) : p := h
theorem D59 {p : Prop} (h : p := by refine sN ?_;exact (Kd.N_mono (Kd.N_far (p:=⟨gb426,0,none⟩) (Kd.N_mono HO419.out (fun k_ hk=>(⟨hk,hk.2⟩:_∧k_ ≠ gb426))) (fun _ hk=>hk.2) (.slice Ao232 t422.length co232)) (fun _ h_=>h_.1))) : p := h
theorem D60 {p : Prop} (h : p := by refine sN ?_;exact (Kd.N_mono (Kd.N_far (p:=⟨gb426,0,none⟩) (Kd.N_mono HO416.out (fun k_ hk=>(⟨hk,hk.2⟩:_∧k_ ≠ gb426))) (fun _ hk=>hk.2) (.slice Ao232 t422.length co232)) (fun _ h_=>h_.1))) : p := h
theorem D61 {p : Prop} (h : p := by refine sN ?_;exact (Kd.N_mono (Kd.N_far (p:=⟨gb369,0,none⟩) (Kd.N_mono HO360.out (fun k_ hk=>(⟨hk,hk.2⟩:_∧k_ ≠ gb369))) (fun _ hk=>hk.2) (.slice Ao16 t365.length co16)) (fun _ h_=>h_.1))) : p := h
theorem D62 {p : Prop} (h : p := by refine sN ?_;exact (Kd.N_mono (Kd.N_far (p:=⟨gb364,0,none⟩) (Kd.N_mono HO360.out (fun k_ hk=>(⟨hk,hk.2⟩:_∧k_ ≠ gb364))) (fun _ hk=>hk.2) (.slice Ao12 t358.length co12)) (fun _ h_=>h_.1))) : p := h
theorem D63 {p : Prop} (h : p := by refine sN ?_;exact (Kd.N_mono (Kd.N_mono (Kd.N_far (p:=⟨gb421,0,none⟩) (Kd.N_far (p:=⟨gb420,0,none⟩) (Kd.N_mono (Kd.N_mono HO_375000.out (fun k_ hk=>(⟨hk,hk.1.2⟩:_∧k_ ≠ gb420))) (fun k_ hk=>(⟨hk,hk.1.2⟩:_∧k_ ≠ gb421))) (fun _ hk=>hk.1.2) (.slice Ao219 t414.length co219)) (fun _ hk=>hk.2) (.slice Ao225 t417.length co225)) (fun _ h_=>h_.1)) (fun _ h_=>h_.1))) : p := h
theorem D64 {p : Prop} (h : p := by refine sN ?_;exact (Kd.N_mono (Kd.N_mono (Kd.N_far (p:=⟨gb421,0,none⟩) (Kd.N_far (p:=⟨gb420,0,none⟩) (Kd.N_mono (Kd.N_mono HO_370000.out (fun k_ hk=>(⟨hk,hk.1.2⟩:_∧k_ ≠ gb420))) (fun k_ hk=>(⟨hk,hk.1.2⟩:_∧k_ ≠ gb421))) (fun _ hk=>hk.1.2) (.slice Ao219 t414.length co219)) (fun _ hk=>hk.2) (.slice Ao225 t417.length co225)) (fun _ h_=>h_.1)) (fun _ h_=>h_.1))) : p := h
theorem D65 {p : Prop} (h : p := by refine sN ?_;exact (Kd.N_mono (Kd.N_mono (Kd.N_far (p:=⟨gb421,0,none⟩) (Kd.N_far (p:=⟨gb420,0,none⟩) (Kd.N_mono (Kd.N_mono HO_365000.out (fun k_ hk=>(⟨hk,hk.1.2⟩:_∧k_ ≠ gb420))) (fun k_ hk=>(⟨hk,hk.1.2⟩:_∧k_ ≠ gb421))) (fun _ hk=>hk.1.2) (.slice Ao219 t414.length co219)) (fun _ hk=>hk.2) (.slice Ao225 t417.length co225)) (fun _ h_=>h_.1)) (fun _ h_=>h_.1))) : p := h
theorem D66 {p : Prop} (h : p := by have:=HJ8.out;have:=HJ62.out;have:=HJ92.out;have:=HJ214.out;first|omega|exact Nat.le_refl _) : p := h
theorem D67 {p : Prop} (h : p := by have:=HJ8.out;have:=HJ62.out;first|omega|exact Nat.le_refl _) : p := h
theorem D68 {p : Prop} (h : p := by rw [idM_length];exact HN.out.symm) : p := h
theorem D69 {p : Prop} (h : p := by refine sR ?_;exact (Kd.R_mono (Kd.R_far (p:=⟨gb403,0,none⟩) (Kd.R_types HO_6.out BK403.out D24) (fun _ hk=>hk.2) (.slice Ao125 t399.length co125)) (fun _ h_=>h_.1))) : p := h
theorem D70 {p : Prop} (h : p := by repeat (first|exact (Kd.R_reads' HO_25.out).2.2|(with_reducible refine Kd.C_alloc ?_ _)|(with_reducible refine Kd.C_drewN ?_ _)|(with_reducible refine Kd.C_drew ?_))) : p := h
theorem D71 {p : Prop} (h : p := by repeat (first|(with_reducible first|exact HK.out|apply KeepBut.set_|apply keep_drewN|apply keep_drew|apply keep_alloc|refine keep_far ?_ GW133.out _)|exact HK.out)) : p := h
theorem D72 {p : Prop} (h : p := by exact (Reps.none _ _)) : p := h
theorem D73 {p : Prop} (h : p := by refine sN ?_;exact Kd.N_mono HO_365000.out (fun _ hk=>⟨hk.2.2.1,⟨hk.2.2.2.1,⟨hk.2.2.2.2.1,⟨hk.2.2.2.2.2.1,⟨hk.2.2.2.2.2.2.1,⟨hk.2.2.2.2.2.2.2.1,⟨hk.2.2.2.2.2.2.2.2.1,⟨hk.2.2.2.2.2.2.2.2.2.1,⟨hk.2.2.2.2.2.2.2.2.2.2.1,⟨hk.2.2.2.2.2.2.2.2.2.2.2.1,hk.2.2.2.2.2.2.2.2.2.2.2.2⟩⟩⟩⟩⟩⟩⟩⟩⟩⟩)) : p := h
theorem D74 {p : Prop} (h : p := by refine sB ?_;refine blk_put (cs:=#[.slice none 0 0]) ?_ 0 _ rfl;exact yB BK452) : p := h
theorem D75 {p : Prop} (h : p := by exact (fun _ _=>trivial)) : p := h
theorem D76 {p : Prop} (h : p := by refine sR ?_;exact Kd.R_mono HO406.out (fun _ hk=>hk.2)) : p := h
theorem D77 {p : Prop} (h : p := by rw [← HN.out];exact hn2) : p := h
theorem D78 {p : Prop} (h : p := by rw [← HN.out];exact hn1) : p := h
theorem D79 {p : Prop} (h : p := by rw [← HN.out];exact hc0) : p := h
theorem D80 {p : Prop} (h : p := by rw [idM_length];exact hIc) : p := h
theorem D81 {p : Prop} (h : p := by refine sR ?_;exact Kd.R_mono HO_6.out (fun _ hk=>hk.2)) : p := h
theorem D82 {p : Prop} (h : p := by first|omega|exact Nat.le_refl _) : p := h
theorem D83 {p : Prop} (h : p := by refine sB ?_;refine blk_put (cs:=#[.slice none 0 0]) ?_ 0 _ rfl;exact yB BK351) : p := h
theorem D84 {p : Prop} (h : p := by refine sB ?_;refine blk_put (cs:=#[.slice none 0 0]) ?_ 0 _ rfl;exact yB BK318) : p := h
theorem D85 {p : Prop} (h : p := by first|(rw [add_block];exact (fun e_=>((HL157_0.out.1 _ e_.symm).2) rfl))|(show some (Addr.add _ _).block ≠ _;rw [add_block];exact (fun e_=>((HL157_0.out.1 _ e_.symm).2) rfl))|exact (fun e_=>((HL157_0.out.1 _ e_.symm).2) rfl)) : p := h
theorem D86 {p : Prop} (h : p := by have:=HJ8.out;first|omega|exact Nat.le_refl _) : p := h
theorem D87 {p : Prop} (h : p := by exact (pz (yW HB))) : p := h
theorem D88 {p : Prop} (h : p := by refine sN ?_;exact (Kd.N_mono (Kd.N_far (p:=⟨gb447,0,none⟩) (Kd.N_mono HO_432000.out (fun k_ hk=>(⟨hk,hk.2⟩:_∧k_ ≠ gb447))) (fun _ hk=>hk.2) (.slice Ao313 t443.length co313)) (fun _ h_=>h_.1))) : p := h
theorem D89 {p : Prop} (h : p := by refine sN ?_;exact (Kd.N_mono (Kd.N_far (p:=⟨gb447,0,none⟩) (Kd.N_mono HO_422000.out (fun k_ hk=>(⟨hk,hk.2⟩:_∧k_ ≠ gb447))) (fun _ hk=>hk.2) (.slice Ao313 t443.length co313)) (fun _ h_=>h_.1))) : p := h
theorem D90 {p : Prop} (h : p := by refine sN ?_;exact (Kd.N_mono (Kd.N_far (p:=⟨gb447,0,none⟩) (Kd.N_mono HO_421000.out (fun k_ hk=>(⟨hk,hk.2⟩:_∧k_ ≠ gb447))) (fun _ hk=>hk.2) (.slice Ao313 t443.length co313)) (fun _ h_=>h_.1))) : p := h
theorem D91 {p : Prop} (h : p := by refine sN ?_;exact (Kd.N_mono (Kd.N_far (p:=⟨gb447,0,none⟩) (Kd.N_mono HO_375000.out (fun k_ hk=>(⟨hk,hk.2⟩:_∧k_ ≠ gb447))) (fun _ hk=>hk.2) (.slice Ao313 t443.length co313)) (fun _ h_=>h_.1))) : p := h
theorem D92 {p : Prop} (h : p := by refine sN ?_;exact (Kd.N_mono (Kd.N_far (p:=⟨gb447,0,none⟩) (Kd.N_mono HO_370000.out (fun k_ hk=>(⟨hk,hk.2⟩:_∧k_ ≠ gb447))) (fun _ hk=>hk.2) (.slice Ao313 t443.length co313)) (fun _ h_=>h_.1))) : p := h
theorem D93 {p : Prop} (h : p := by refine sN ?_;exact (Kd.N_mono (Kd.N_far (p:=⟨gb447,0,none⟩) (Kd.N_mono HO_365000.out (fun k_ hk=>(⟨hk,hk.2⟩:_∧k_ ≠ gb447))) (fun _ hk=>hk.2) (.slice Ao313 t443.length co313)) (fun _ h_=>h_.1))) : p := h
theorem D94 {p : Prop} (h : p := by refine sN ?_;exact (Kd.N_mono (Kd.N_far (p:=⟨gb442,0,none⟩) (Kd.N_mono HO_432000.out (fun k_ hk=>(⟨hk,hk.2⟩:_∧k_ ≠ gb442))) (fun _ hk=>hk.2) (.slice Ao300 t438.length co300)) (fun _ h_=>h_.1))) : p := h
theorem D95 {p : Prop} (h : p := by refine sN ?_;exact (Kd.N_mono (Kd.N_far (p:=⟨gb442,0,none⟩) (Kd.N_mono HO_427000.out (fun k_ hk=>(⟨hk,hk.2⟩:_∧k_ ≠ gb442))) (fun _ hk=>hk.2) (.slice Ao300 t438.length co300)) (fun _ h_=>h_.1))) : p := h
theorem D96 {p : Prop} (h : p := by refine sN ?_;exact (Kd.N_mono (Kd.N_far (p:=⟨gb442,0,none⟩) (Kd.N_mono HO_422000.out (fun k_ hk=>(⟨hk,hk.2⟩:_∧k_ ≠ gb442))) (fun _ hk=>hk.2) (.slice Ao300 t438.length co300)) (fun _ h_=>h_.1))) : p := h
theorem D97 {p : Prop} (h : p := by refine sN ?_;exact (Kd.N_mono (Kd.N_far (p:=⟨gb442,0,none⟩) (Kd.N_mono HO_421000.out (fun k_ hk=>(⟨hk,hk.2⟩:_∧k_ ≠ gb442))) (fun _ hk=>hk.2) (.slice Ao300 t438.length co300)) (fun _ h_=>h_.1))) : p := h
theorem D98 {p : Prop} (h : p := by refine sN ?_;exact (Kd.N_mono (Kd.N_far (p:=⟨gb442,0,none⟩) (Kd.N_mono HO_375000.out (fun k_ hk=>(⟨hk,hk.2⟩:_∧k_ ≠ gb442))) (fun _ hk=>hk.2) (.slice Ao300 t438.length co300)) (fun _ h_=>h_.1))) : p := h
theorem D99 {p : Prop} (h : p := by refine sN ?_;exact (Kd.N_mono (Kd.N_far (p:=⟨gb442,0,none⟩) (Kd.N_mono HO_370000.out (fun k_ hk=>(⟨hk,hk.2⟩:_∧k_ ≠ gb442))) (fun _ hk=>hk.2) (.slice Ao300 t438.length co300)) (fun _ h_=>h_.1))) : p := h
theorem D100 {p : Prop} (h : p := by refine sN ?_;exact (Kd.N_mono (Kd.N_far (p:=⟨gb442,0,none⟩) (Kd.N_mono HO_365000.out (fun k_ hk=>(⟨hk,hk.2⟩:_∧k_ ≠ gb442))) (fun _ hk=>hk.2) (.slice Ao300 t438.length co300)) (fun _ h_=>h_.1))) : p := h
theorem D101 {p : Prop} (h : p := by refine sN ?_;exact (Kd.N_mono (Kd.N_far (p:=⟨gb437,0,none⟩) (Kd.N_mono HO_432000.out (fun k_ hk=>(⟨hk,hk.2⟩:_∧k_ ≠ gb437))) (fun _ hk=>hk.2) (.slice Ao283 t433.length co283)) (fun _ h_=>h_.1))) : p := h
theorem D102 {p : Prop} (h : p := by refine sN ?_;exact (Kd.N_mono (Kd.N_far (p:=⟨gb437,0,none⟩) (Kd.N_mono HO_427000.out (fun k_ hk=>(⟨hk,hk.2⟩:_∧k_ ≠ gb437))) (fun _ hk=>hk.2) (.slice Ao283 t433.length co283)) (fun _ h_=>h_.1))) : p := h
theorem D103 {p : Prop} (h : p := by refine sN ?_;exact (Kd.N_mono (Kd.N_far (p:=⟨gb437,0,none⟩) (Kd.N_mono HO_421000.out (fun k_ hk=>(⟨hk,hk.2⟩:_∧k_ ≠ gb437))) (fun _ hk=>hk.2) (.slice Ao283 t433.length co283)) (fun _ h_=>h_.1))) : p := h
theorem D104 {p : Prop} (h : p := by refine sN ?_;exact (Kd.N_mono (Kd.N_far (p:=⟨gb437,0,none⟩) (Kd.N_mono HO_375000.out (fun k_ hk=>(⟨hk,hk.2⟩:_∧k_ ≠ gb437))) (fun _ hk=>hk.2) (.slice Ao283 t433.length co283)) (fun _ h_=>h_.1))) : p := h
theorem D105 {p : Prop} (h : p := by refine sN ?_;exact (Kd.N_mono (Kd.N_far (p:=⟨gb437,0,none⟩) (Kd.N_mono HO_370000.out (fun k_ hk=>(⟨hk,hk.2⟩:_∧k_ ≠ gb437))) (fun _ hk=>hk.2) (.slice Ao283 t433.length co283)) (fun _ h_=>h_.1))) : p := h
theorem D106 {p : Prop} (h : p := by refine sN ?_;exact (Kd.N_mono (Kd.N_far (p:=⟨gb437,0,none⟩) (Kd.N_mono HO_365000.out (fun k_ hk=>(⟨hk,hk.2⟩:_∧k_ ≠ gb437))) (fun _ hk=>hk.2) (.slice Ao283 t433.length co283)) (fun _ h_=>h_.1))) : p := h
theorem D107 {p : Prop} (h : p := by refine sN ?_;exact (Kd.N_mono (Kd.N_far (p:=⟨gb426,0,none⟩) (Kd.N_mono HO_375000.out (fun k_ hk=>(⟨hk,hk.2⟩:_∧k_ ≠ gb426))) (fun _ hk=>hk.2) (.slice Ao232 t422.length co232)) (fun _ h_=>h_.1))) : p := h
theorem D108 {p : Prop} (h : p := by refine sN ?_;exact (Kd.N_mono (Kd.N_far (p:=⟨gb426,0,none⟩) (Kd.N_mono HO_370000.out (fun k_ hk=>(⟨hk,hk.2⟩:_∧k_ ≠ gb426))) (fun _ hk=>hk.2) (.slice Ao232 t422.length co232)) (fun _ h_=>h_.1))) : p := h
theorem D109 {p : Prop} (h : p := by refine sN ?_;exact (Kd.N_mono (Kd.N_far (p:=⟨gb426,0,none⟩) (Kd.N_mono HO_365000.out (fun k_ hk=>(⟨hk,hk.2⟩:_∧k_ ≠ gb426))) (fun _ hk=>hk.2) (.slice Ao232 t422.length co232)) (fun _ h_=>h_.1))) : p := h
theorem D110 {p : Prop} (h : p := by refine sN ?_;exact (Kd.N_mono (Kd.N_far (p:=⟨gb403,0,none⟩) (Kd.N_mono HO_365000.out (fun k_ hk=>(⟨hk,hk.2⟩:_∧k_ ≠ gb403))) (fun _ hk=>hk.2) (.slice Ao125 t399.length co125)) (fun _ h_=>h_.1))) : p := h
theorem D111 {p : Prop} (h : p := by refine sN ?_;exact (Kd.N_mono (Kd.N_far (p:=⟨gb398,0,none⟩) (Kd.N_mono HO_375000.out (fun k_ hk=>(⟨hk,hk.2⟩:_∧k_ ≠ gb398))) (fun _ hk=>hk.2) (.slice Ao116 t394.length co116)) (fun _ h_=>h_.1))) : p := h
theorem D112 {p : Prop} (h : p := by refine sN ?_;exact (Kd.N_mono (Kd.N_far (p:=⟨gb398,0,none⟩) (Kd.N_mono HO_370000.out (fun k_ hk=>(⟨hk,hk.2⟩:_∧k_ ≠ gb398))) (fun _ hk=>hk.2) (.slice Ao116 t394.length co116)) (fun _ h_=>h_.1))) : p := h
theorem D113 {p : Prop} (h : p := by refine sN ?_;exact (Kd.N_mono (Kd.N_far (p:=⟨gb398,0,none⟩) (Kd.N_mono HO_365000.out (fun k_ hk=>(⟨hk,hk.2⟩:_∧k_ ≠ gb398))) (fun _ hk=>hk.2) (.slice Ao116 t394.length co116)) (fun _ h_=>h_.1))) : p := h
theorem D114 {p : Prop} (h : p := by refine sN ?_;exact (Kd.N_mono (Kd.N_far (p:=⟨gb393,0,none⟩) (Kd.N_mono HO_375000.out (fun k_ hk=>(⟨hk,hk.2⟩:_∧k_ ≠ gb393))) (fun _ hk=>hk.2) (.slice Ao107 t389.length co107)) (fun _ h_=>h_.1))) : p := h
theorem D115 {p : Prop} (h : p := by refine sN ?_;exact (Kd.N_mono (Kd.N_far (p:=⟨gb452,0,none⟩) (Kd.N_mono HO450.out (fun k_ hk=>(⟨hk,hk.2⟩:_∧k_ ≠ gb452))) (fun _ hk=>hk.2) (.slice Ao331 t448.length co331)) (fun _ h_=>h_.1))) : p := h
theorem D116 {p : Prop} (h : p := by refine sN ?_;exact (Kd.N_mono (Kd.N_far (p:=⟨gb452,0,none⟩) (Kd.N_mono HO445.out (fun k_ hk=>(⟨hk,hk.2⟩:_∧k_ ≠ gb452))) (fun _ hk=>hk.2) (.slice Ao331 t448.length co331)) (fun _ h_=>h_.1))) : p := h
theorem D117 {p : Prop} (h : p := by refine sN ?_;exact (Kd.N_mono (Kd.N_far (p:=⟨gb447,0,none⟩) (Kd.N_mono HO445.out (fun k_ hk=>(⟨hk,hk.2⟩:_∧k_ ≠ gb447))) (fun _ hk=>hk.2) (.slice Ao313 t443.length co313)) (fun _ h_=>h_.1))) : p := h
theorem D118 {p : Prop} (h : p := by refine sN ?_;exact (Kd.N_mono (Kd.N_far (p:=⟨gb447,0,none⟩) (Kd.N_mono HO440.out (fun k_ hk=>(⟨hk,hk.2⟩:_∧k_ ≠ gb447))) (fun _ hk=>hk.2) (.slice Ao313 t443.length co313)) (fun _ h_=>h_.1))) : p := h
theorem D119 {p : Prop} (h : p := by refine sN ?_;exact (Kd.N_mono (Kd.N_far (p:=⟨gb447,0,none⟩) (Kd.N_mono HO435.out (fun k_ hk=>(⟨hk,hk.2⟩:_∧k_ ≠ gb447))) (fun _ hk=>hk.2) (.slice Ao313 t443.length co313)) (fun _ h_=>h_.1))) : p := h
theorem D120 {p : Prop} (h : p := by refine sN ?_;exact (Kd.N_mono (Kd.N_far (p:=⟨gb437,0,none⟩) (Kd.N_mono HO435.out (fun k_ hk=>(⟨hk,hk.2⟩:_∧k_ ≠ gb437))) (fun _ hk=>hk.2) (.slice Ao283 t433.length co283)) (fun _ h_=>h_.1))) : p := h
theorem D121 {p : Prop} (h : p := by refine sN ?_;exact (Kd.N_mono (Kd.N_far (p:=⟨gb431,0,none⟩) (Kd.N_mono HO429.out (fun k_ hk=>(⟨hk,hk.2⟩:_∧k_ ≠ gb431))) (fun _ hk=>hk.2) (.slice Ao243 t427.length co243)) (fun _ h_=>h_.1))) : p := h
theorem D122 {p : Prop} (h : p := by refine sN ?_;exact (Kd.N_mono (Kd.N_far (p:=⟨gb431,0,none⟩) (Kd.N_mono HO424.out (fun k_ hk=>(⟨hk,hk.2⟩:_∧k_ ≠ gb431))) (fun _ hk=>hk.2) (.slice Ao243 t427.length co243)) (fun _ h_=>h_.1))) : p := h
theorem D123 {p : Prop} (h : p := by refine sN ?_;exact (Kd.N_mono (Kd.N_far (p:=⟨gb426,0,none⟩) (Kd.N_mono HO424.out (fun k_ hk=>(⟨hk,hk.2⟩:_∧k_ ≠ gb426))) (fun _ hk=>hk.2) (.slice Ao232 t422.length co232)) (fun _ h_=>h_.1))) : p := h
theorem D124 {p : Prop} (h : p := by refine sN ?_;exact (Kd.N_mono (Kd.N_far (p:=⟨gb398,0,none⟩) (Kd.N_mono HO396.out (fun k_ hk=>(⟨hk,hk.2⟩:_∧k_ ≠ gb398))) (fun _ hk=>hk.2) (.slice Ao116 t394.length co116)) (fun _ h_=>h_.1))) : p := h
theorem D125 {p : Prop} (h : p := by refine sN ?_;exact (Kd.N_mono (Kd.N_far (p:=⟨gb398,0,none⟩) (Kd.N_mono HO391.out (fun k_ hk=>(⟨hk,hk.2⟩:_∧k_ ≠ gb398))) (fun _ hk=>hk.2) (.slice Ao116 t394.length co116)) (fun _ h_=>h_.1))) : p := h
theorem D126 {p : Prop} (h : p := by refine sN ?_;exact (Kd.N_mono (Kd.N_far (p:=⟨gb393,0,none⟩) (Kd.N_mono HO391.out (fun k_ hk=>(⟨hk,hk.2⟩:_∧k_ ≠ gb393))) (fun _ hk=>hk.2) (.slice Ao107 t389.length co107)) (fun _ h_=>h_.1))) : p := h
theorem D127 {p : Prop} (h : p := by refine sN ?_;exact (Kd.N_mono (Kd.N_far (p:=⟨gb385,0,none⟩) (Kd.N_mono HO383.out (fun k_ hk=>(⟨hk,hk.2⟩:_∧k_ ≠ gb385))) (fun _ hk=>hk.2) (.slice Ao73 t381.length co73)) (fun _ h_=>h_.1))) : p := h
theorem D128 {p : Prop} (h : p := by refine sN ?_;exact (Kd.N_mono (Kd.N_far (p:=⟨gb374,0,none⟩) (Kd.N_mono HO360.out (fun k_ hk=>(⟨hk,hk.2⟩:_∧k_ ≠ gb374))) (fun _ hk=>hk.2) (.slice Ao22 t370.length co22)) (fun _ h_=>h_.1))) : p := h
theorem D129 {p : Prop} (h : p := by refine sN ?_;exact (Kd.N_mono (Kd.N_far (p:=⟨gb369,0,none⟩) (Kd.N_mono HO367.out (fun k_ hk=>(⟨hk,hk.2⟩:_∧k_ ≠ gb369))) (fun _ hk=>hk.2) (.slice Ao16 t365.length co16)) (fun _ h_=>h_.1))) : p := h
theorem D130 {p : Prop} (h : p := by refine sR ?_;exact (Kd.R_mono (Kd.R_far (p:=⟨gb398,0,none⟩) (Kd.R_types HO_6.out BK398.out D24) (fun _ hk=>hk.2) (.slice Ao116 t394.length co116)) (fun _ h_=>h_.1))) : p := h
theorem D131 {p : Prop} (h : p := by refine sR ?_;exact (Kd.R_mono (Kd.R_far (p:=⟨gb393,0,none⟩) (Kd.R_types HO_6.out BK393.out D24) (fun _ hk=>hk.2) (.slice Ao107 t389.length co107)) (fun _ h_=>h_.1))) : p := h
theorem D132 {p : Prop} (h : p := by refine sR ?_;exact (Kd.R_mono (Kd.R_far (p:=⟨gb369,0,none⟩) (Kd.R_types HO363.out BK369.out D24) (fun _ hk=>hk.2) (.slice Ao16 t365.length co16)) (fun _ h_=>h_.1))) : p := h
theorem D133 {p : Prop} (h : p := by refine sR ?_;exact (Kd.R_mono (Kd.R_far (p:=⟨gb364,0,none⟩) (Kd.R_types HO363.out BK364.out D24) (fun _ hk=>hk.2) (.slice Ao12 t358.length co12)) (fun _ h_=>h_.1))) : p := h
theorem D134 {p : Prop} (h : p := by repeat (first|(with_reducible first|exact HB.out|apply pa|apply pb|apply pd|refine pt ?_ (IsS180.ge HI0.out)|refine pt ?_ GE145.out|refine pt ?_ GE146.out)|exact HB.out)) : p := h
theorem D135 {p : Prop} (h : p := by exact (yW HB)) : p := h
theorem D136 {p : Prop} (h : p := by refine sB ?_;refine blk_put (cs:=#[.slice none 0 0]) ?_ 0 _ rfl;exact yB BK196) : p := h
theorem D137 {p : Prop} (h : p := by refine sB ?_;refine blk_put (cs:=#[.slice none 0 0]) ?_ 0 _ rfl;exact yB BK133) : p := h
theorem D138 {p : Prop} (h : p := by have:=hk.2;omega) : p := h
theorem D139 {p : Prop} (h : p := by have:=hk.1;omega) : p := h
theorem D140 {p : Prop} (h : p := by first|exact q410|exact od D1|(have e_:=(Kd.N_reads' HO_203.out).1;omega)) : p := h
theorem D141 {p : Prop} (h : p := by have:=HN.out;omega) : p := h
theorem D142 {p : Prop} (h : p := by simp [Value.ownBlock]) : p := h
theorem D143 {p : Prop} (h : p := by have:=HK1.out;have:=HK2.out;omega) : p := h
theorem D144 {p : Prop} (h : p := by refine sB ?_;refine blk_far ?_ NB420_421.out _;refine sB ?_;refine blk_put (cs:=#[.slice none 0 0]) ?_ 0 _ rfl;exact yB BK420) : p := h
theorem D145 {p : Prop} (h : p := by refine sB ?_;refine blk_far ?_ NB145_146.out _;refine sB ?_;refine blk_put (cs:=#[.slice none 0 0]) ?_ 0 _ rfl;exact yB BK145) : p := h
set_option maxHeartbeats 8000000
set_option maxRecDepth 100000
def impl_Times.l0:Nat→Int→Int→Int→Int→Option (Int)
 | 0,_,_,_,_=>none
 | k+1,x1,x5,x6,x7=>if x6 < 8 then (if 0≤x6 then (if (Go.bits .and .u8 (shr .u8 x1 x6) 1)=1 then (if (wrap64 (x7*2)) > 255 then (impl_Times.l0 k x1 (Go.bits .xor .i64 x5 x7) (wrap64 (x6+1)) (Go.bits .xor .i64 (wrap64 (x7*2)) 283)) else (impl_Times.l0 k x1 (Go.bits .xor .i64 x5 x7) (wrap64 (x6+1)) (wrap64 (x7*2)))) else (if (wrap64 (x7*2)) > 255 then (impl_Times.l0 k x1 x5 (wrap64 (x6+1)) (Go.bits .xor .i64 (wrap64 (x7*2)) 283)) else (impl_Times.l0 k x1 x5 (wrap64 (x6+1)) (wrap64 (x7*2))))) else (none)) else (some ((x5) % 256))
def impl_Times.f (k:Nat) (a0:Int) (a1:Int):Option (Int):=impl_Times.l0 k a1 0 0 (wrap64 (a0))
theorem impl_Times.mono_l:∀ k,(∀ y0 y1 y2 y3,LeO (impl_Times.l0 k y0 y1 y2 y3) (impl_Times.l0 (k+1) y0 y1 y2 y3))
 | 0=>fun _ _ _ _ r h=>by simp [impl_Times.l0] at h
 | k+1=>by
  have ih0:=impl_Times.mono_l k
  intro y0 y1 y2 y3
  unfold impl_Times.l0
  exact mm
theorem impl_Times.mono:∀ a0 a1 k,LeO (impl_Times.f k a0 a1) (impl_Times.f (k+1) a0 a1):=by
 intro a0 a1 k
 have ih0:=impl_Times.mono_l k
 unfold impl_Times.f
 exact mm
theorem impl_Times.calls (k:Nat) (a0:Int) (a1:Int) (r:Int) (w:World) (h:impl_Times.f k a0 a1=some r) :
  Calls Try.prog 192 #[.int .u8 a0, .int .u8 a1] w fun e w'=>e = .returned (.int .u8 r)∧Drawn0 w w':=by
 have H:=h
 unfold impl_Times.f at H
 clear h
 have H':=am H
 clear H
 go_enter Try.func192,Try.ntmps192
 go_wp2
 go_loopg [5,6,7] k (fun kq v5 v6 v7 w'=>∃ (x5_1:Int) (x6_1:Int) (x7_1:Int),v5 = .int .i64 x5_1∧v6 = .int .i64 x6_1∧v7 = .int .i64 x7_1∧Aside0 (impl_Times.l0 kq a1 x5_1 x6_1 x7_1=some r)∧Aside0 (kq≤k)∧Drawn0 w w')
 case atStart=>exact ⟨(0),(0),(wrap64 (a0)),D2,D2,D2,H',⟨Nat.le_refl _⟩,D34⟩
 case round =>
  clear H'
  try clear c1
  try clear p2
  obtain ⟨x5_1,x6_1,x7_1,rfl,rfl,rfl,HA,HK1,⟨m1,rfl⟩⟩:=hrel
  cases gk with
  | zero=>exact absurd HA.out (by simp [impl_Times.l0])
  | succ k1 =>
   have H:=HA.out
   clear HA
   simp only [impl_Times.l0] at H
   by_cases c3:x6_1 < 8
   ·rw [if_pos c3] at H
    have c3b0:=decide_eq_true c3
    clear c3
    obtain ⟨c4,H⟩:=yi H
    have c4b0:=eq_true c4
    have c4b1:decide (0≤x6_1)=true:=decide_eq_true c4
    clear c4
    generalize hji5:(shr .u8 a1 x6_1)=ji5 at H
    have hji5_:(a1 / 2 ^ min x6_1.toNat 8)=ji5:=hji5
    have hji5z:x6_1≤8→(a1 / 2 ^ x6_1.toNat)=ji5:=shr_small hji5
    by_cases c6:(Go.bits .and .u8 (ji5) 1)=1
    ·rw [if_pos c6] at H
     have c6b0:((Go.bits .and .u8 (ji5) 1) == 1)=true:=beq_iff_eq.mpr c6
     have c6b1:((Go.bits .and .u8 (ji5) 1) != 1)=false:=bne_eq_false_iff_eq.mpr c6
     clear c6
     by_cases c7:(wrap64 (x7_1*2)) > 255
     ·rw [if_pos c7] at H
      have c7b0:decide (255 < (wrap64 (x7_1*2)))=true:=decide_eq_true c7
      clear c7
      have H':=am H
      clear H
      go_wp2
      go_roundg k1
      case measure=>have:=HK1.out;omega
      case rel=>exact ⟨(Go.bits .xor .i64 x5_1 x7_1),(wrap64 (x6_1+1)),(Go.bits .xor .i64 (wrap64 (x7_1*2)) 283),D2,D2,D2,H',⟨D50⟩,D34⟩
     rw [if_neg c7] at H
     have c7b0:decide (255 < (wrap64 (x7_1*2)))=false:=decide_eq_false c7
     clear c7
     have H':=am H
     clear H
     go_wp2
     go_roundg k1
     case measure=>have:=HK1.out;omega
     case rel=>exact ⟨(Go.bits .xor .i64 x5_1 x7_1),(wrap64 (x6_1+1)),(wrap64 (x7_1*2)),D2,D2,D2,H',⟨D50⟩,D34⟩
    rw [if_neg c6] at H
    have c6b0:((Go.bits .and .u8 (ji5) 1) == 1)=false:=beq_eq_false_iff_ne.mpr c6
    have c6b1:((Go.bits .and .u8 (ji5) 1) != 1)=true:=bne_iff_ne.mpr c6
    by_cases c8:(wrap64 (x7_1*2)) > 255
    ·rw [if_pos c8] at H
     have c8b0:decide (255 < (wrap64 (x7_1*2)))=true:=decide_eq_true c8
     clear c8
     have H':=am H
     clear H
     go_wp2
     go_roundg k1
     case measure=>have:=HK1.out;omega
     case rel=>exact ⟨(x5_1),(wrap64 (x6_1+1)),(Go.bits .xor .i64 (wrap64 (x7_1*2)) 283),D2,D2,D2,H',⟨D50⟩,D34⟩
    rw [if_neg c8] at H
    have c8b0:decide (255 < (wrap64 (x7_1*2)))=false:=decide_eq_false c8
    clear c8
    have H':=am H
    clear H
    go_wp2
    go_roundg k1
    case measure=>have:=HK1.out;omega
    case rel=>exact ⟨(x5_1),(wrap64 (x6_1+1)),(wrap64 (x7_1*2)),D2,D2,D2,H',⟨D50⟩,D34⟩
   rw [if_neg c3] at H
   have c3b0:=decide_eq_false c3
   clear c3
   obtain rfl:=Option.some.inj H
   go_wp2
   go_ret
   exact ⟨D2,D34⟩

def impl_power.l0:Nat→Int→Int→Int→Option (Int)
 | 0,_,_,_=>none
 | k+1,x0,x1,x5=>if x1 > 0 then (if (Go.bits .and .i64 x1 1)=1 then ((impl_Times.f k x5 x0).bind fun t101=>((impl_Times.f k x0 x0).bind fun t102=>(impl_power.l0 k t102 (x1 / 2) t101))) else ((impl_Times.f k x0 x0).bind fun t103=>(impl_power.l0 k t103 (x1 / 2) x5))) else (some x5)
def impl_power.f (k:Nat) (a0:Int) (a1:Int):Option (Int):=impl_power.l0 k a0 a1 1
theorem impl_power.mono_l:∀ k,(∀ y0 y1 y2,LeO (impl_power.l0 k y0 y1 y2) (impl_power.l0 (k+1) y0 y1 y2))
 | 0=>fun _ _ _ r h=>by simp [impl_power.l0] at h
 | k+1=>by
  have ih0:=impl_power.mono_l k
  intro y0 y1 y2
  unfold impl_power.l0
  exact mm
theorem impl_power.mono:∀ a0 a1 k,LeO (impl_power.f k a0 a1) (impl_power.f (k+1) a0 a1):=by
 intro a0 a1 k
 have ih0:=impl_power.mono_l k
 unfold impl_power.f
 exact mm
theorem impl_power.calls (k:Nat) (a0:Int) (a1:Int) (r:Int) (w:World) (h:impl_power.f k a0 a1=some r) :
  Calls Try.prog 180 #[.int .u8 a0, .int .i64 a1] w fun e w'=>e = .returned (.int .u8 r)∧Drawn0 w w':=by
 have H:=h
 unfold impl_power.f at H
 clear h
 have H':=am H
 clear H
 go_enter Try.func180,Try.ntmps180
 go_wp2
 go_loopg [0,1,5] k (fun kq v0 v1 v5 w'=>∃ (x0_1:Int) (x1_1:Int) (x5_1:Int),v0 = .int .u8 x0_1∧v1 = .int .i64 x1_1∧v5 = .int .u8 x5_1∧Aside0 (impl_power.l0 kq x0_1 x1_1 x5_1=some r)∧Aside0 (kq≤k)∧Drawn0 w w')
 case atStart=>exact ⟨(a0),(a1),(1),D2,D2,D2,H',⟨Nat.le_refl _⟩,D34⟩
 case round =>
  clear H'
  try clear c1
  try clear p2
  obtain ⟨x0_1,x1_1,x5_1,rfl,rfl,rfl,HA,HK1,⟨m1,rfl⟩⟩:=hrel
  cases gk with
  | zero=>exact absurd HA.out (by simp [impl_power.l0])
  | succ k1 =>
   have H:=HA.out
   clear HA
   simp only [impl_power.l0] at H
   by_cases c3:x1_1 > 0
   ·rw [if_pos c3] at H
    have c3b0:decide (0 < x1_1)=true:=decide_eq_true c3
    clear c3
    by_cases c4:(Go.bits .and .i64 x1_1 1)=1
    ·rw [if_pos c4] at H
     have c4b0:((Go.bits .and .i64 x1_1 1) == 1)=true:=beq_iff_eq.mpr c4
     have c4b1:((Go.bits .and .i64 x1_1 1) != 1)=false:=bne_eq_false_iff_eq.mpr c4
     clear c4
     obtain ⟨t101,A5,H⟩:=yo H
     obtain ⟨t102,A6,H⟩:=yo H
     have H':=am H
     clear H
     go_wp2_with (first|((with_reducible refine gC 192 ?_);refine gM (some 15) Try.func192 (args:=#[.int .u8 x5_1, .int .u8 x0_1]) (impl_Times.calls k1 x5_1 x0_1 t101 _ A5.out) ?_;rintro e w' ⟨rfl,⟨nd,rfl⟩⟩;refine ⟨_,rfl,?_⟩)|((with_reducible refine gC 192 ?_);refine gM (some 18) Try.func192 (args:=#[.int .u8 x0_1, .int .u8 x0_1]) (impl_Times.calls k1 x0_1 x0_1 t102 _ A6.out) ?_;rintro e w' ⟨rfl,⟨nd,rfl⟩⟩;refine ⟨_,rfl,?_⟩))
     go_roundg k1
     case measure=>have:=HK1.out;omega
     case rel=>exact ⟨(t102),(x1_1 / 2),(t101),D2,D2,D2,H',⟨D50⟩,D34⟩
    rw [if_neg c4] at H
    have c4b0:((Go.bits .and .i64 x1_1 1) == 1)=false:=beq_eq_false_iff_ne.mpr c4
    have c4b1:((Go.bits .and .i64 x1_1 1) != 1)=true:=bne_iff_ne.mpr c4
    obtain ⟨t103,A7,H⟩:=yo H
    have H':=am H
    clear H
    go_wp2_with (first|((with_reducible refine gC 192 ?_);refine gM (some 18) Try.func192 (args:=#[.int .u8 x0_1, .int .u8 x0_1]) (impl_Times.calls k1 x0_1 x0_1 t103 _ A7.out) ?_;rintro e w' ⟨rfl,⟨nd,rfl⟩⟩;refine ⟨_,rfl,?_⟩))
    go_roundg k1
    case measure=>have:=HK1.out;omega
    case rel=>exact ⟨(t103),(x1_1 / 2),(x5_1),D2,D2,D2,H',⟨D50⟩,D34⟩
   rw [if_neg c3] at H
   have c3b0:decide (0 < x1_1)=false:=decide_eq_false c3
   clear c3
   obtain rfl:=Option.some.inj H
   go_wp2
   go_ret
   exact ⟨D2,D34⟩

def impl_identity.l0:Nat→Int→List (List Int)→Int→Int→Option ((List (List Int)))
 | 0,_,_,_,_=>none
 | k+1,x0,x3,x7,x8=>if x8 < x7 then (if 0≤x0 then (if (x0:Int).toNat≤281474976710656 then ((some (List.replicate (x0:Int).toNat 0:List Int)).bind fun y107=>(if 0≤x8 then (if x8 < (y107.length:Int) then (if x3.length < 5864062014805 then (impl_identity.l0 k x0 (x3 ++ [(y107.set (x8:Int).toNat 1)]) x7 (wrap64 (x8+1))) else (none)) else (none)) else (none))) else (none)) else (none)) else (some x3)
def impl_identity.f (k:Nat) (a0:Int):Option ((List (List Int))):=impl_identity.l0 k a0 (([]:List (List Int))) a0 0
theorem impl_identity.mono_l:∀ k,(∀ y0 y1 y2 y3,LeO (impl_identity.l0 k y0 y1 y2 y3) (impl_identity.l0 (k+1) y0 y1 y2 y3))
 | 0=>fun _ _ _ _ r h=>by simp [impl_identity.l0] at h
 | k+1=>by
  have ih0:=impl_identity.mono_l k
  intro y0 y1 y2 y3
  unfold impl_identity.l0
  exact mm
theorem impl_identity.mono:∀ a0 k,LeO (impl_identity.f k a0) (impl_identity.f (k+1) a0):=by
 intro a0 k
 have ih0:=impl_identity.mono_l k
 unfold impl_identity.f
 exact mm
theorem impl_identity.calls (k:Nat) (a0:Int) (r:List (List Int)) (w:World) (h:impl_identity.f k a0=some r) :
  Calls Try.prog 168 #[.int .i64 a0] w fun e w'=>∃ v0_:Value,e = .returned (v0_)∧Kd.S (Kd.slice 5 (Kd.int .u8)) 57 w' w.heap.size (fun _=>True) v0_ r∧Below w.heap.size w w':=by
 have HB:=am (Below.refl w.heap.size w)
 have H:=h
 unfold impl_identity.f at H
 clear h
 generalize hy104:(([]:List (List Int)):List (List Int))=y104 at H
 have Ny104:=am hy104.symm
 clear hy104
 have H':=am H
 clear H
 go_enter Try.func168,Try.ntmps168
 go_wp2_with (first|((with_reducible refine gD 6 ?_);refine Kd.S_lit (Kd.slice 5 (Kd.int .u8)) _ 57 D35 (N:=6) D35 (xs:=([]:List (List Int))) (inner:=[]) (ok:=fun _=>True) (okp:=fun _=>True) D45 D72 (fun _ hk=>hk) trivial (Below.refl _ _) (Nat.le_refl _) D52 ?_;intro v105 w2 ho3 hb hg_ hnew_;clear hg_ hnew_;(first|rw [← Ny104.out] at ho3|(simp only [Int.reduceToNat] at ho3;rw [← Ny104.out] at ho3));have HO106:=am (Kd.S_lower ho3 (pz (yW HB)));replace HB:=yH HB hb;clear hb ho3))
 go_loopg [3,8] k (fun kq v3 v8 w'=>∃ (x3_1:List (List Int)) (x8_1:Int),v8 = .int .i64 x8_1∧Aside0 (impl_identity.l0 kq a0 x3_1 a0 x8_1=some r)∧Aside0 (kq≤k)∧Aside0 (Kd.S (Kd.slice 5 (Kd.int .u8)) 57 w' w.heap.size (fun _=>True) v3 x3_1)∧Aside0 (Below w.heap.size w w'))
 case atStart=>exact ⟨(y104),(0),D2,H',⟨Nat.le_refl _⟩,⟨yS HO106⟩,⟨yW HB⟩⟩
 case round =>
  clear H'
  try clear c1
  try clear p2
  obtain ⟨x3_1,x8_1,rfl,HA,HK1,HO_3,HB⟩:=hrel
  cases gk with
  | zero=>exact absurd HA.out (by simp [impl_identity.l0])
  | succ k1 =>
   have H:=HA.out
   clear HA
   simp only [impl_identity.l0] at H
   by_cases c4:x8_1 < a0
   ·rw [if_pos c4] at H
    have c4b0:=decide_eq_true c4
    clear c4
    obtain ⟨c5,H⟩:=yi H
    have c5b0:=eq_true c5
    have c5b1:decide (0≤a0)=true:=decide_eq_true c5
    clear c5
    obtain ⟨c6,H⟩:=yi H
    have c6b0:=eq_true c6
    have c6b1:decide ((a0:Int).toNat≤281474976710656)=true:=decide_eq_true c6
    clear c6
    obtain ⟨y107,hy107,H⟩:=ys H
    have Ny107:=am hy107
    clear hy107
    obtain ⟨c7,H⟩:=yi H
    have c7b0:=decide_eq_true c7
    clear c7
    obtain ⟨c8,H⟩:=yi H
    have c8b0:=decide_eq_true c8
    clear c8
    generalize hy110:(y107.set (x8_1:Int).toNat 1:List Int)=y110 at H
    have Ny110:=am hy110.symm
    clear hy110
    obtain ⟨c10,H⟩:=yi H
    have LMc10:=am c10
    clear c10
    generalize hy111:(x3_1 ++ [y110]:List (List Int))=y111 at H
    have Ny111:=am hy111.symm
    clear hy111
    have H':=am H
    clear H
    go_wp2_with (first|((with_reducible refine gD 12 ?_);refine Kd.R_make (Kd.int .u8) _ 5 rfl (N:=12) rfl 57 _ _ rfl a0 rfl rfl Try.underlying57 (.int .u8 0) 1 info5 rfl D24 D23 0 (ok:=fun _=>True) (okp:=fun _=>True) rfl (fun _ hk=>hk) trivial (od D1) (Nat.le_trans (Nat.mul_le_mul_right _ (od D1:a0.toNat≤281474976710656)) D23) (Below.refl _ _) (Nat.le_refl _) ?_;intro v108 w11 ho12 hb hg_ hnew_;clear hg_ hnew_;(first|rw [← Ny107.out] at ho12|(simp only [Int.reduceToNat] at ho12;rw [← Ny107.out] at ho12));replace HO_3:=eS HO_3 (Kd.R_base ho12) hb;have HO109:=am (Kd.R_lower ho12 (pz (yW HB)));replace HB:=yH HB hb;clear hb ho12;have p9:0≤(x8_1:Int):=od D1;have q9:(x8_1:Int) < ((y107.length:Int):Int):=od D1;obtain ⟨go9,co9,eo9,gb9,gl9,cl9,HG9⟩:=Kd.R_form HO109.out D23;(first|cases eo9|(injection eo9 with ea_ en_ ec_;(first|subst ea_|(injection ea_ with ea_;subst ea_));subst ec_;clear en_));have GB9:=am gb9;have GG9:=am HG9;clear gb9 gl9 HG9;obtain ⟨hx9_0,hf9_0⟩:=Kd.R_celln 0 HO109.out (x8_1:Int) p9 q9;replace p9:=eq_true p9;replace q9:=eq_true q9;obtain ⟨hy13_,hz13_⟩:=Kd.R_celln 0 HO109.out (x8_1:Int) (od D1) (od D1);have HP13:=Kd.R_putg HO109.out (x8_1:Int) 1)|((with_reducible refine gate_store (t:=5) (p:=15) rfl ?_);refine store_event (t:=5) (p:=15) (v:=?vo_w14) (w1:=(w11.setCell ⟨go9,(x8_1:Int).toNat,none⟩ (.int .u8 1))) ?hg ?ho ?hn ?hr ?_;(case ho=>rfl);(case hg=>rfl);(case hn=>rfl);(case hr=>first|(go_simp;done)|(go_simp;rfl));intro w14 hw;have hg:w11.grownBy w14 (some go9):=(by rw [hw];exact HP13.2);have hp_:Kd.R (Kd.int .u8) 5 w14 w.heap.size (fun _=>True) (.slice (some ⟨go9,0,none⟩) y107.length co9) y110:=(by rw [hw,Ny110.out];exact HP13.1);clear HP13;replace HO_3:=am (Kd.S_after (v:=(.slice (some ⟨go9,0,none⟩) y107.length co9)) (v1:=(.slice (some ⟨go9,0,none⟩) y107.length co9)) (ok:=(fun _=>True)) (yS HO_3) hg (.inl rfl));replace HO109:=am (hp_);replace HB:=am ((by rw [hw];exact pt (HB.out) GB9.out:Below w.heap.size w w14));clear hg hw hp_)|((with_reducible refine gate_builtin (b:=.append) (xs:=#[.tmp 16, .tmp 18]) rfl ?_);at_builtin;refine Kd.S_append (Kd.slice 5 (Kd.int .u8)) (w0:=w) w.heap.size rfl (.tmp 16) (.tmp 18) 37 57 (.slice none 0 0) 24 rfl Try.underlying37 info57 rfl D24 D23 u3 x3_1 y110 [.slice (some ⟨go9,0,none⟩) y107.length co9] (fun _=>True) (fun k_=>some k_=(.slice (some ⟨go9,0,none⟩) y107.length co9:Value).ownBlock) rfl rfl (by exact Kd.M_row (Kd.R_mono (Kd.R_tight rfl (Kd.R_mono (ok':=fun k_=>((fun _=>True)) k_∧some k_ ≠ (u3:Value).ownBlock) (Kd.R_apart' (HO109.out) (Kd.S_typed HO_3.out) D24) (fun k_ hk=>⟨trivial,hk.2⟩))) (fun _ h_=>h_))) (fun k_ hk_=>((Kd.R_mono (ok':=fun k_=>((fun _=>True)) k_∧some k_ ≠ (u3:Value).ownBlock) (Kd.R_apart' (HO109.out) (Kd.S_typed HO_3.out) D24) (fun k_ hk=>⟨trivial,hk.2⟩))).1 k_ hk_.symm) D75 (by exact (by refine sS ?_;exact Kd.S_mono HO_3.out (fun k_ hk=>⟨trivial,fun e_=>hk.2 e_⟩))) D135 D87 (by have:=LMc10.out;omega) ?_;intro v112 w15 ho hb hg hat;rw [← Ny111.out] at ho;have n0_:=am (hb);have n1_:=am (ho);clear HB HO_3 HO109;have HB:=n0_;have HO113:=n1_;clear n0_ n1_ ho hb hg hat))
    go_roundg k1
    case measure=>have:=HK1.out;omega
    case rel=>exact ⟨(y111),(wrap64 (x8_1+1)),D2,H',⟨D50⟩,⟨yS HO113⟩,⟨yW HB⟩⟩
   rw [if_neg c4] at H
   have c4b0:=decide_eq_false c4
   clear c4
   obtain rfl:=Option.some.inj H
   go_wp2
   go_ret
   exact ⟨_,D0,yS HO_3,yW HB⟩

theorem fl_info5:(Try.prog.info? 5).map (fun i=>(i.zero,i.size,i.bytes))=some (some (.int .u8 0),1,1):=by kernel_rfl
theorem fl_info32:(Try.prog.info? 57).map (fun i=>(i.zero,i.size,i.bytes))=some (some (.slice none 0 0),1,24):=by kernel_rfl

mutual
def impl_filled.l0 (E:Nat→Int→Int→Option Int):Nat→Int→List (List Int)→Int→Int→Option ((List (List Int)))
 | 0,_,_,_,_=>none
 | k+1,x1,x7,x12,x13=>if x13 < x12 then (impl_filled.l1 E k x1 x7 x13 (([]:List Int)) x12 x13 x1 0) else (some x7)
def impl_filled.l1 (E:Nat→Int→Int→Option Int):Nat→Int→List (List Int)→Int→List Int→Int→Int→Int→Int→Option ((List (List Int)))
 | 0,_,_,_,_,_,_,_,_=>none
 | k+1,x1,x7,x8,x9,x12,x13,x17,x18=>if x18 < x17 then ((E k x8 x18).bind fun t149=>(if x9.length < 140737488355328 then (impl_filled.l1 E k x1 x7 x8 (x9 ++ [t149]) x12 x13 x17 (wrap64 (x18+1))) else (none))) else (if x7.length < 5864062014805 then (impl_filled.l0 E k x1 (x7 ++ [x9]) x12 (wrap64 (x13+1))) else (none))
end
def impl_filled.f (E:Nat→Int→Int→Option Int) (k:Nat) (a0:Int) (a1:Int):Option ((List (List Int))):=impl_filled.l0 E k a1 (([]:List (List Int))) a0 0
theorem impl_filled.mono_l (E:Nat→Int→Int→Option Int) (hE:∀ i j k,LeO (E k i j) (E (k+1) i j)):∀ k,(∀ y0 y1 y2 y3,LeO (impl_filled.l0 E k y0 y1 y2 y3) (impl_filled.l0 E (k+1) y0 y1 y2 y3))∧(∀ y0 y1 y2 y3 y4 y5 y6 y7,LeO (impl_filled.l1 E k y0 y1 y2 y3 y4 y5 y6 y7) (impl_filled.l1 E (k+1) y0 y1 y2 y3 y4 y5 y6 y7))
 | 0=>⟨fun _ _ _ _ r h=>by simp [impl_filled.l0] at h,fun _ _ _ _ _ _ _ _ r h=>by simp [impl_filled.l1] at h⟩
 | k+1=>by
  obtain ⟨ih0,ih1⟩:=impl_filled.mono_l E hE k
  refine ⟨?_,?_⟩
  ·intro y0 y1 y2 y3
   unfold impl_filled.l0
   repeat' first
   | (with_reducible exact ih0 _ _ _ _)
   | (with_reducible exact ih1 _ _ _ _ _ _ _ _)
   | (with_reducible exact hE _ _ _)
   |(with_reducible exact LeO.refl _)|(with_reducible exact LeO.none _)|(with_reducible refine LeO.ite ?_ ?_)|(with_reducible refine LeO.bind ?_ (fun _=>?_))|exact ih0 _ _ _ _|exact ih1 _ _ _ _ _ _ _ _|exact hE _ _ _|exact LeO.none _|refine LeO.ite ?_ ?_|refine LeO.bind ?_ (fun _=>?_)
  intro y0 y1 y2 y3 y4 y5 y6 y7
  unfold impl_filled.l1
  repeat' first
  | (with_reducible exact ih0 _ _ _ _)
  | (with_reducible exact ih1 _ _ _ _ _ _ _ _)
  | (with_reducible exact hE _ _ _)
  |(with_reducible exact LeO.refl _)|(with_reducible exact LeO.none _)|(with_reducible refine LeO.ite ?_ ?_)|(with_reducible refine LeO.bind ?_ (fun _=>?_))|exact ih0 _ _ _ _|exact ih1 _ _ _ _ _ _ _ _|exact hE _ _ _|exact LeO.none _|refine LeO.ite ?_ ?_|refine LeO.bind ?_ (fun _=>?_)
theorem impl_filled.mono (E:Nat→Int→Int→Option Int) (hE:∀ i j k,LeO (E k i j) (E (k+1) i j)):∀ a0 a1 k,LeO (impl_filled.f E k a0 a1) (impl_filled.f E (k+1) a0 a1):=by
 intro a0 a1 k
 obtain ⟨ih0,ih1⟩:=impl_filled.mono_l E hE k
 unfold impl_filled.f
 repeat' first
   | (with_reducible exact ih0 _ _ _ _)
   | (with_reducible exact ih1 _ _ _ _ _ _ _ _)
   | (with_reducible exact hE _ _ _)
   |(with_reducible exact LeO.refl _)|(with_reducible exact LeO.none _)|(with_reducible refine LeO.ite ?_ ?_)|(with_reducible refine LeO.bind ?_ (fun _=>?_))|exact ih0 _ _ _ _|exact ih1 _ _ _ _ _ _ _ _|exact hE _ _ _|exact LeO.none _|refine LeO.ite ?_ ?_|refine LeO.bind ?_ (fun _=>?_)
theorem impl_filled.calls (E:Nat→Int→Int→Option Int) (g:Nat) (eg:∀ args w,(callFunc g args).run Try.prog w = .ok (.enter g args) w) (lb:Array Value) (k:Nat) (a0:Int) (a1:Int) (r:List (List Int)) (w:World)
  (hE:∀ k i j t W,Below w.heap.size w W→E k i j=some t→Calls Try.prog g (#[.int .i64 i, .int .i64 j] ++ lb) W fun e w'=>e = .returned (.int .u8 t)∧Drawn0 W w') (h:impl_filled.f E k a0 a1=some r) :
  Calls Try.prog 178 #[.int .i64 a0, .int .i64 a1, .func (.func g) #[] lb] w fun e w'=>∃ v0_:Value,e = .returned (v0_)∧Kd.S (Kd.slice 5 (Kd.int .u8)) 57 w' w.heap.size (fun _=>True) v0_ r∧Below w.heap.size w w':=by
 have HX:=am hE
 clear hE
 have HB:=am (Below.refl w.heap.size w)
 have H:=h
 unfold impl_filled.f at H
 clear h
 generalize hy143:(([]:List (List Int)):List (List Int))=y143 at H
 have Ny143:=am hy143.symm
 clear hy143
 have H':=am H
 clear H
 go_enter Try.func178,Try.ntmps178
 go_wp2_with (first|((with_reducible refine gD 11 ?_);refine Kd.S_lit (Kd.slice 5 (Kd.int .u8)) _ 57 D35 (N:=11) D35 (xs:=([]:List (List Int))) (inner:=[]) (ok:=fun _=>True) (okp:=fun _=>True) D45 D72 (fun _ hk=>hk) trivial (Below.refl _ _) (Nat.le_refl _) D52 ?_;intro v144 w4 ho5 hb hg_ hnew_;clear hg_ hnew_;(first|rw [← Ny143.out] at ho5|(simp only [Int.reduceToNat] at ho5;rw [← Ny143.out] at ho5));have HO145:=am (Kd.S_lower ho5 (pz (yW HB)));replace HB:=yH HB hb;clear hb ho5))
 go_loopg [7,13] k (fun kq v7 v13 w'=>∃ (x7_1:List (List Int)) (x13_1:Int),v13 = .int .i64 x13_1∧Aside0 (impl_filled.l0 E kq a1 x7_1 a0 x13_1=some r)∧Aside0 (kq≤k)∧Aside0 (Kd.S (Kd.slice 5 (Kd.int .u8)) 57 w' w.heap.size (fun _=>True) v7 x7_1)∧Aside0 (Below w.heap.size w w'))
 case atStart=>exact ⟨(y143),(0),D2,H',⟨Nat.le_refl _⟩,⟨yS HO145⟩,⟨yW HB⟩⟩
 case round =>
  clear H'
  try clear p2
  obtain ⟨x7_1,x13_1,rfl,HA,HK1,HO_7,HB⟩:=hrel
  cases gk with
  | zero=>exact absurd HA.out (by simp [impl_filled.l0])
  | succ k1 =>
   have H:=HA.out
   clear HA
   simp only [impl_filled.l0] at H
   by_cases c6:x13_1 < a0
   ·rw [if_pos c6] at H
    have c6b0:=decide_eq_true c6
    clear c6
    generalize hy146:(([]:List Int):List Int)=y146 at H
    have Ny146:=am hy146.symm
    clear hy146
    have H':=am H
    clear H
    go_wp2_with (first|((with_reducible refine gD 16 ?_);refine Kd.R_lit (Kd.int .u8) _ 5 D35 (N:=16) D35 (xs:=([]:List Int)) (inner:=[]) (ok:=fun _=>True) (okp:=fun _=>True) D45 D72 (fun _ hk=>hk) trivial (Below.refl _ _) (Nat.le_refl _) D52 ?_;intro v147 w7 ho8 hb hg_ hnew_;clear hg_ hnew_;(first|rw [← Ny146.out] at ho8|(simp only [Int.reduceToNat] at ho8;rw [← Ny146.out] at ho8));replace HO_7:=eS HO_7 (Kd.R_base ho8) hb;have HO148:=am (Kd.R_lower ho8 (pz (yW HB)));replace HB:=yH HB hb;clear hb ho8))
    go_loopg [9,18] k1 (fun kq v9 v18 w'=>∃ (x9_2:List Int) (x18_2:Int),v18 = .int .i64 x18_2∧Aside0 (impl_filled.l1 E kq a1 x7_1 x13_1 x9_2 a0 x13_1 a1 x18_2=some r)∧Aside0 (kq≤k1)∧Aside0 (Kd.S (Kd.slice 5 (Kd.int .u8)) 57 w' w.heap.size (fun k_=>some k_ ≠ (v9:Value).ownBlock) u7 x7_1)∧Aside0 (Kd.R (Kd.int .u8) 5 w' w.heap.size (fun _=>True) v9 x9_2)∧Aside0 (Below w.heap.size w w'))
    case atStart=>exact ⟨(y146),(0),D2,H',⟨Nat.le_refl _⟩,⟨by refine sS ?_;exact Kd.S_mono HO_7.out (fun _ hk=>hk.2)⟩,⟨yR HO148⟩,⟨yW HB⟩⟩
    case round =>
     clear H'
     try clear p2
     try clear c6
     try clear c6b0
     try clear c8
     try clear p2
     obtain ⟨x9_2,x18_2,rfl,HA,HK2,HO_7,HO_9,HB⟩:=hrel
     cases gk with
     | zero=>exact absurd HA.out (by simp [impl_filled.l1])
     | succ k2 =>
      have H:=HA.out
      clear HA
      simp only [impl_filled.l1] at H
      by_cases c9:x18_2 < a1
      ·rw [if_pos c9] at H
       have c9b0:=decide_eq_true c9
       clear c9
       obtain ⟨t149,A10,H⟩:=yo H
       obtain ⟨c11,H⟩:=yi H
       have LMc11:=am c11
       clear c11
       generalize hy150:(x9_2 ++ [t149]:List Int)=y150 at H
       have Ny150:=am hy150.symm
       clear hy150
       have H':=am H
       clear H
       go_wp2_with (first|(go_at_fn g;refine (HX.out _ _ _ _ _ (by (repeat (first|(with_reducible first|exact HB.out|apply pa|apply pb|apply pd)|exact HB.out))) A10.out).mono ?_;rintro e w' ⟨rfl,⟨nd,rfl⟩⟩)|((with_reducible refine gate_builtin (b:=.append) (xs:=#[.tmp 21, .tmp 26]) rfl ?_);at_builtin;refine Kd.R_append (Kd.int .u8) (w0:=w) w.heap.size rfl (.tmp 21) (.tmp 26) 57 5 (.int .u8 0) 1 rfl Try.underlying57 fl_info5 rfl D24 D23 u9 x9_2 t149 [.int .u8 t149] (fun _=>True) (fun _=>False) rfl rfl (by exact rfl) (fun _ hk=>hk.elim) D75 (by exact (yR HO_9)) D135 D87 (by have:=LMc11.out;omega) ?_;intro v151 w12 ho hb hg hat;rw [← Ny150.out] at ho;have n0_:=am (Kd.S_after (ok:=(fun _=>True)) (by refine sS ?_;exact Kd.S_mono HO_7.out (fun _ hk=>⟨trivial,hk⟩)) hg hat);have n1_:=am (hb);have n2_:=am (ho);clear HO_7 HB HO_9;have HO_7:=n0_;have HB:=n1_;have HO152:=n2_;clear n0_ n1_ n2_ ho hb hg hat))
       go_roundg k2
       case measure=>have:=HK1.out;have:=HK2.out;omega
       case rel=>exact ⟨(y150),(wrap64 (x18_2+1)),D2,H',⟨D143⟩,⟨by refine sS ?_;exact Kd.S_mono HO_7.out (fun _ hk=>hk.2)⟩,⟨yR HO152⟩,⟨yW HB⟩⟩
      rw [if_neg c9] at H
      have c9b0:=decide_eq_false c9
      clear c9
      obtain ⟨c13,H⟩:=yi H
      have LMc13:=am c13
      clear c13
      generalize hy153:(x7_1 ++ [x9_2]:List (List Int))=y153 at H
      have Ny153:=am hy153.symm
      clear hy153
      have H':=am H
      clear H
      obtain ⟨Ao15,co15,eo15⟩:=Kd.R_slice HO_9.out
      subst eo15
      go_wp2_with (first|((with_reducible refine gate_builtin (b:=.append) (xs:=#[.tmp 29, .tmp 31]) rfl ?_);at_builtin;refine Kd.S_append (Kd.slice 5 (Kd.int .u8)) (w0:=w) w.heap.size rfl (.tmp 29) (.tmp 31) 37 57 (.slice none 0 0) 24 rfl Try.underlying37 fl_info32 rfl D24 D23 u7 x7_1 x9_2 [.slice Ao15 x9_2.length co15] (fun _=>True) (fun k_=>some k_=(.slice Ao15 x9_2.length co15:Value).ownBlock) rfl rfl (by exact Kd.M_row (Kd.R_mono (Kd.R_tight rfl (Kd.R_mono (ok':=fun k_=>((fun _=>True)) k_∧some k_ ≠ (u7:Value).ownBlock) (Kd.R_apart' (HO_9.out) (Kd.S_typed HO_7.out) D24) (fun k_ hk=>⟨trivial,hk.2⟩))) (fun _ h_=>h_))) (fun k_ hk_=>((Kd.R_mono (ok':=fun k_=>((fun _=>True)) k_∧some k_ ≠ (u7:Value).ownBlock) (Kd.R_apart' (HO_9.out) (Kd.S_typed HO_7.out) D24) (fun k_ hk=>⟨trivial,hk.2⟩))).1 k_ hk_.symm) D75 (by exact (by refine sS ?_;exact Kd.S_mono HO_7.out (fun k_ hk=>⟨trivial,fun e_=>hk e_⟩))) D135 D87 (by have:=LMc13.out;omega) ?_;intro v154 w14 ho hb hg hat;rw [← Ny153.out] at ho;have n0_:=am (hb);have n1_:=am (ho);clear HB HO_7 HO_9;have HB:=n0_;have HO155:=n1_;clear n0_ n1_ ho hb hg hat))
      go_roundg k2
      case measure=>have:=HK1.out;have:=HK2.out;omega
      case rel=>exact ⟨(y153),(wrap64 (x13_1+1)),D2,H',⟨D143⟩,⟨yS HO155⟩,⟨yW HB⟩⟩
   rw [if_neg c6] at H
   have c6b0:=decide_eq_false c6
   clear c6
   obtain rfl:=Option.some.inj H
   go_wp2
   go_ret
   exact ⟨_,D0,yS HO_7,yW HB⟩

set_option maxHeartbeats 4000000 in
theorem impl_cauchy.inv_calls (k:Nat) (a t:Int) (W:World) (h:impl_power.f k a 254=some t) :
  Calls Try.prog 207 #[.int .u8 a] W fun e w'=>e = .returned (.int .u8 t)∧Drawn0 W w':=by
 have HX:=am h
 clear h
 go_enter Try.func207,Try.ntmps207
 go_wp2_with (go_at_call 180;(with_reducible refine (impl_power.calls k a 254 t _ HX.out).mono ?_);rintro e w' ⟨rfl,⟨q,rfl⟩⟩)
 go_ret
 exact ⟨rfl,⟨_,rfl⟩⟩
def impl_cauchy.E (c:Int) (k:Nat) (i j:Int):Option Int:=impl_power.f k ((Go.bits .xor .i64 (wrap64 (c+i)) j) % 256) 254
theorem impl_cauchy.mono_E (c:Int):∀ i j k,LeO (impl_cauchy.E c k i j) (impl_cauchy.E c (k+1) i j):=fun i j k=>impl_power.mono _ _ _
def impl_cauchy.f (k:Nat) (a0:Int) (a1:Int):Option ((List (List Int))):=impl_filled.f (impl_cauchy.E a1) k a0 a1
theorem impl_cauchy.mono:∀ a0 a1 k,LeO (impl_cauchy.f k a0 a1) (impl_cauchy.f (k+1) a0 a1):=fun a0 a1 k=>impl_filled.mono _ (impl_cauchy.mono_E a1) a0 a1 k
set_option maxHeartbeats 4000000 in
theorem impl_cauchy.elem (gb:Nat) (c:Int) (k:Nat) (i j t:Int) (W:World) (hbox:W.cell? ⟨gb,0,none⟩=some (.int .i64 c)) (h:impl_cauchy.E c k i j=some t) :
  Calls Try.prog 208 #[.int .i64 i, .int .i64 j, .pointer (some ⟨gb,0,none⟩)] W fun e w'=>e = .returned (.int .u8 t)∧Drawn0 W w':=by
 have HX:=am h
 clear h
 go_enter Try.func208,Try.ntmps208
 go_wp2_with fail
 refine (impl_cauchy.inv_calls k ((Go.bits .xor .i64 (wrap64 (c+i)) j) % 256) t _ HX.out).mono ?_
 rintro e w' ⟨rfl,⟨q,rfl⟩⟩
 go_wp2
 go_ret
 exact ⟨rfl,⟨_,rfl⟩⟩
set_option maxHeartbeats 4000000 in
theorem impl_cauchy.calls (k:Nat) (a0:Int) (a1:Int) (r:List (List Int)) (w:World) (h:impl_cauchy.f k a0 a1=some r) :
  Calls Try.prog 188 #[.int .i64 a0, .int .i64 a1] w fun e w'=>∃ v0_:Value,e = .returned (v0_)∧Kd.S (Kd.slice 5 (Kd.int .u8)) 57 w' w.heap.size (fun _=>True) v0_ r∧Below w.heap.size w w':=by
 go_enter Try.func188,Try.ntmps188
 go_wp2_with fail
 obtain ⟨W,hW⟩:∃ W:World,W=w.alloc (.cells #[.int .i64 a1] 3 (0,0)):=⟨_,rfl⟩
 have hb:Below w.heap.size w W:=by rw [hW];exact pa (Below.refl _ _) _
 have hc1:W.cell? ⟨w.heap.size,0,none⟩=some (.int .i64 a1):=by rw [hW];go_simp
 have hlt:w.heap.size < W.heap.size:=by rw [hW];simp
 rw [← hW]
 refine (impl_filled.calls (impl_cauchy.E a1) 208 (enters_of Try.func208 rfl rfl) #[.pointer (some ⟨w.heap.size,0,none⟩)] k a0 a1 r W (fun k i j t W' hb' hE=>impl_cauchy.elem w.heap.size a1 k i j t W' ((hb'.cell hlt).trans hc1) hE) h).mono ?_
 rintro e w' ⟨v,rfl,hS,hB⟩
 go_wp2
 go_ret
 exact ⟨_,rfl,Kd.S_lower hS (Nat.le_of_lt hlt),below_then hb (Nat.le_of_lt hlt) hB⟩

def spec_l1In.f (a0:Int) (a1:Int) (a2:Int):Option (Bool):=if a0 ≥ a1 then (some (decide (a0≤a2))) else (some false)
theorem spec_l1In.calls (a0:Int) (a1:Int) (a2:Int) (r:Bool) (w:World) (h:spec_l1In.f a0 a1 a2=some r) :
  Calls Try.prog 121 #[.int .i64 a0, .int .i64 a1, .int .i64 a2] w fun e w'=>e = .returned (.bool r)∧Drawn0 w w':=by
 have H:=h
 unfold spec_l1In.f at H
 clear h
 by_cases c4:a0 ≥ a1
 ·rw [if_pos c4] at H
  have c4b0:decide (a1≤a0)=true:=decide_eq_true c4
  clear c4
  obtain rfl:=Option.some.inj H
  go_enter Try.func121,Try.ntmps121
  go_wp2
  go_ret
  exact ⟨D2,D34⟩
 rw [if_neg c4] at H
 have c4b0:decide (a1≤a0)=false:=decide_eq_false c4
 clear c4
 obtain rfl:=Option.some.inj H
 go_enter Try.func121,Try.ntmps121
 go_wp2
 go_ret
 exact ⟨D2,D34⟩
mutual
def spec_GoodMatrix.j0:Nat→Bool→List (List Int)→Option (Bool)
 | 0,_,_=>none
 | k+1,x18,x115000=>if x18=true then (some false) else (spec_GoodMatrix.l0 k x115000 (x115000.length:Int) 0 x115000)
def spec_GoodMatrix.l0:Nat→List (List Int)→Int→Int→List (List Int)→Option (Bool)
 | 0,_,_,_,_=>none
 | k+1,x20,x21,x22,x115000=>if x22 < x21 then (if 0≤x22 then (if x22 < (x20.length:Int) then (if 0 < (x115000.length:Int) then (if ((rd_L1 x20 x22).length:Int)=((rd_L1 x115000 0).length:Int) then (spec_GoodMatrix.l0 k x20 x21 (wrap64 (x22+1)) x115000) else (some false)) else (none)) else (none)) else (none)) else (some true)
end
def spec_GoodMatrix.f (k:Nat) (l0_0:List (List Int)):Option (Bool):=(spec_l1In.f (l0_0.length:Int) 1 16).bind fun t115=>(if t115=true then (if 0 < (l0_0.length:Int) then ((spec_l1In.f ((rd_L1 l0_0 0).length:Int) 1 16).bind fun t117=>(spec_GoodMatrix.j0 k (!t117) l0_0)) else (none)) else (spec_GoodMatrix.j0 k true l0_0))
theorem spec_GoodMatrix.mono_l:∀ k,(∀ y0 y1,LeO (spec_GoodMatrix.j0 k y0 y1) (spec_GoodMatrix.j0 (k+1) y0 y1))∧(∀ y0 y1 y2 y3,LeO (spec_GoodMatrix.l0 k y0 y1 y2 y3) (spec_GoodMatrix.l0 (k+1) y0 y1 y2 y3))
 | 0=>⟨fun _ _ r h=>by simp [spec_GoodMatrix.j0] at h,fun _ _ _ _ r h=>by simp [spec_GoodMatrix.l0] at h⟩
 | k+1=>by
  obtain ⟨ih0,ih1⟩:=spec_GoodMatrix.mono_l k
  refine ⟨?_,?_⟩
  ·intro y0 y1
   unfold spec_GoodMatrix.j0
   exact mm
  intro y0 y1 y2 y3
  unfold spec_GoodMatrix.l0
  exact mm
theorem spec_GoodMatrix.mono:∀ a0 k,LeO (spec_GoodMatrix.f k a0) (spec_GoodMatrix.f (k+1) a0):=by
 intro a0 k
 obtain ⟨ih0,ih1⟩:=spec_GoodMatrix.mono_l k
 unfold spec_GoodMatrix.f
 exact mm
theorem spec_GoodMatrix.calls (k:Nat) (A0_0:Option Addr) (c0_0:Nat) (l0_0:List (List Int)) (r:Bool) (w:World) (hr0_0:Kd.C (Kd.slice 5 (Kd.int .u8)) w A0_0 l0_0.length l0_0) (hc0_0:l0_0.length≤c0_0) (h:spec_GoodMatrix.f k l0_0=some r) :
  Calls Try.prog 103 #[.agg #[.slice A0_0 l0_0.length c0_0]] w fun e w'=>e = .returned (.bool r)∧Below w.heap.size w w':=by
 have hu43:=Try.underlying43
 have HR0_0:=am hr0_0
 have HC0_0:=am hc0_0
 clear hr0_0 hc0_0
 have HB:=am (Below.refl w.heap.size w)
 have H:=h
 unfold spec_GoodMatrix.f at H
 clear h
 have HC2:=am H
 clear H
 go_enter Try.func103,Try.ntmps103
 go_upto_region 1 with (first|((with_reducible refine gD 1 ?_);(try (refine gate_guard D35 ?_;dsimp only));refine gB (cs:=#[.slice A0_0 l0_0.length c0_0]) 43 ?_;intro gb114 hg w3 hbox hb;have BK114:=am (hbox);have GW114:=ye HB hg;replace HB:=yH HB hb;have GE114:=GW114;clear hb hbox hg))
 (try simp only [Act.put,q1,q2,q3])
 go_cut [18] (fun v18 wc=>∃ (kq:Nat) (x18_1:Bool),v18 = .bool x18_1∧Aside0 (spec_GoodMatrix.j0 kq x18_1 l0_0=some r)∧Aside0 (kq≤k)∧Aside0 (wc.heap[gb114]? = some (.cells #[(.slice A0_0 l0_0.length c0_0)] 43 (0,0)))∧Aside0 (Below w.heap.size w wc))
 case first =>
  have H:=HC2.out
  clear HC2
  obtain ⟨t115,A4,H⟩:=yo H
  by_cases c5:t115=true
  ·subst c5
   replace H:=yt H
   obtain ⟨c6,H⟩:=yi H
   have c6b0:=decide_eq_true c6
   have c6b1:decide (0 < l0_0.length)=true:=decide_eq_true D23
   clear c6
   (first|rw [c6b0]|(simp only [i64_w,i32_w];rw [c6b0])|skip)
   obtain ⟨t117,A7,H⟩:=yo H
   have H':=am H
   clear H
   obtain ⟨hcz8_0,hfz8_0⟩:=yk1 BK114
   go_wp2_with (first|((with_reducible refine gC 121 ?_);refine gM (some 8) Try.func121 (args:=#[.int .i64 (l0_0.length:Int), .int .i64 1, .int .i64 16]) (spec_l1In.calls (l0_0.length:Int) 1 16 true _ A4.out) ?_;rintro e w' ⟨rfl,⟨nd,rfl⟩⟩;refine ⟨_,rfl,?_⟩;have p116:0≤(0:Int):=D23;have q116:0 < (l0_0.length:Int):=od D1;obtain ⟨ad116,A116_0,c116_0,e116,hx116_0,hl116_0,hi116_0⟩:=at_L1 HR0_0.out 0 p116 q116;cases e116;have qi116:(0 < l0_0.length)=True:=eq_true D23;(try rw [show ((0:Int)).toNat=0 from rfl] at hx116_0);(try rw [Addr.add_zero'] at hx116_0);replace hx116_0:=(HB.out.cell (World.block_lt_of_cell? w _ hx116_0)).trans hx116_0;have HR116_0:=am hi116_0;have HC116_0:=am hl116_0;clear hi116_0 hl116_0;replace p116:=eq_true p116;replace q116:=eq_true q116)|(go_at_call 121;(with_reducible refine (spec_l1In.calls ((rd_L1 l0_0 0).length:Int) 1 16 t117 _ A7.out).mono ?_);rintro e w' ⟨rfl,⟨nd,rfl⟩⟩))
   go_meet
   case rel=>exact ⟨_,(!t117),D2,H',⟨D82⟩,⟨yB BK114⟩,⟨yW HB⟩⟩
  replace c5:=Bool.eq_false_iff.mpr c5
  subst c5
  replace H:=yn H
  have H':=am H
  clear H
  obtain ⟨hcz9_0,hfz9_0⟩:=yk1 BK114
  go_wp2_with (first|((with_reducible refine gC 121 ?_);refine gM (some 8) Try.func121 (args:=#[.int .i64 (l0_0.length:Int), .int .i64 1, .int .i64 16]) (spec_l1In.calls (l0_0.length:Int) 1 16 false _ A4.out) ?_;rintro e w' ⟨rfl,⟨nd,rfl⟩⟩;refine ⟨_,rfl,?_⟩))
  go_meet
  case rel=>exact ⟨_,(true),D2,H',⟨D82⟩,⟨yB BK114⟩,⟨yW HB⟩⟩
 case rest =>
  clear HC2
  try clear c1
  try clear p1
  try clear q1
  try clear hx1
  try clear qi1
  try clear p2
  try clear c5
  try clear c6
  try clear c6b0
  try clear c6b1
  try clear hcz8_0
  try clear hcz9_0
  try clear hfz8_0
  try clear hfz9_0
  try clear hx116_0
  try clear p116
  try clear q116
  obtain ⟨kq,x18_1,rfl,HA,HJ1,BK114,HB⟩:=hcut
  cases kq with
  | zero=>exact absurd HA.out (by simp [spec_GoodMatrix.j0])
  | succ kj1 =>
   have H:=HA.out
   clear HA
   simp only [spec_GoodMatrix.j0] at H
   by_cases c10:x18_1=true
   ·subst c10
    replace H:=yt H
    obtain rfl:=Option.some.inj H
    go_wp2
    go_ret
    exact ⟨D0,yW HB⟩
   replace c10:=Bool.eq_false_iff.mpr c10
   subst c10
   replace H:=yn H
   have H':=am H
   clear H
   obtain ⟨hcz11_0,hfz11_0⟩:=yk1 BK114
   go_wp2
   go_loopg [22] kj1 (fun kq v22 w'=>∃ (x22_2:Int),v22 = .int .i64 x22_2∧Aside0 (spec_GoodMatrix.l0 kq l0_0 (l0_0.length:Int) x22_2 l0_0=some r)∧Aside0 (kq≤kj1)∧Aside0 (w'.heap[gb114]? = some (.cells #[(.slice A0_0 l0_0.length c0_0)] 43 (0,0)))∧Aside0 (Below w.heap.size w w'))
   case atStart=>exact ⟨(0),D2,H',⟨Nat.le_refl _⟩,⟨yB BK114⟩,⟨yW HB⟩⟩
   case round =>
    clear H'
    try clear c1
    try clear p1
    try clear q1
    try clear hx1
    try clear qi1
    try clear p2
    try clear c5
    try clear c6
    try clear c6b0
    try clear c6b1
    try clear c10
    try clear c11
    try clear p11
    try clear q11
    try clear hx11
    try clear qi11
    try clear hcz11_0
    try clear hcz8_0
    try clear hcz9_0
    try clear hfz11_0
    try clear hfz8_0
    try clear hfz9_0
    try clear hx116_0
    try clear p1
    try clear p116
    try clear p2
    try clear q1
    try clear q116
    obtain ⟨x22_2,rfl,HA,HK2,BK114,HB⟩:=hrel
    cases gk with
    | zero=>exact absurd HA.out (by simp [spec_GoodMatrix.l0])
    | succ k2 =>
     have H:=HA.out
     clear HA
     simp only [spec_GoodMatrix.l0] at H
     by_cases c12:x22_2 < (l0_0.length:Int)
     ·rw [if_pos c12] at H
      have c12b0:=decide_eq_true c12
      clear c12
      obtain ⟨c13,H⟩:=yi H
      have c13b0:=decide_eq_true c13
      clear c13
      obtain ⟨c14,H⟩:=yi H
      have c14b0:=decide_eq_true c14
      clear c14
      obtain ⟨c15,H⟩:=yi H
      have c15b0:=decide_eq_true c15
      have c15b1:decide (0 < l0_0.length)=true:=decide_eq_true D23
      clear c15
      by_cases c16:((rd_L1 l0_0 x22_2).length:Int)=((rd_L1 l0_0 0).length:Int)
      ·rw [if_pos c16] at H
       have c16b0:(((rd_L1 l0_0 x22_2).length:Int) == ((rd_L1 l0_0 0).length:Int))=true:=beq_iff_eq.mpr c16
       have c16b1:(((rd_L1 l0_0 x22_2).length:Int) != ((rd_L1 l0_0 0).length:Int))=false:=bne_eq_false_iff_eq.mpr c16
       have c16b2:((rd_L1 l0_0 x22_2).length == (rd_L1 l0_0 0).length)=true:=by first|simpa using c16|(simp at c16 ⊢;omega)
       clear c16
       have H':=am H
       clear H
       have p118:0≤(x22_2:Int):=od D1
       have q118:x22_2 < (l0_0.length:Int):=od D1
       obtain ⟨ad118,A118_0,c118_0,e118,hx118_0,hl118_0,hi118_0⟩:=at_L1 HR0_0.out x22_2 p118 q118
       cases e118
       replace hx118_0:=(HB.out.cell (World.block_lt_of_cell? w _ hx118_0)).trans hx118_0
       have HR118_0:=am hi118_0
       have HC118_0:=am hl118_0
       clear hi118_0 hl118_0
       replace p118:=eq_true p118
       replace q118:=eq_true q118
       obtain ⟨hcz17_0,hfz17_0⟩:=yk1 BK114
       have p119:0≤(0:Int):=D23
       have q119:0 < (l0_0.length:Int):=od D1
       obtain ⟨ad119,A119_0,c119_0,e119,hx119_0,hl119_0,hi119_0⟩:=at_L1 HR0_0.out 0 p119 q119
       obtain rfl:ad118=ad119:=(by injection e119)
       have qi119:(0 < l0_0.length)=True:=eq_true D23
       (try rw [show ((0:Int)).toNat=0 from rfl] at hx119_0)
       (try rw [Addr.add_zero'] at hx119_0)
       replace hx119_0:=(HB.out.cell (World.block_lt_of_cell? w _ hx119_0)).trans hx119_0
       have HR119_0:=am hi119_0
       have HC119_0:=am hl119_0
       clear hi119_0 hl119_0
       replace p119:=eq_true p119
       replace q119:=eq_true q119
       go_wp2
       go_roundg k2
       case measure=>have:=HJ1.out;have:=HK2.out;omega
       case rel=>exact ⟨(wrap64 (x22_2+1)),D2,H',⟨by have:=HJ1.out;have:=HK2.out;omega⟩,⟨yB BK114⟩,⟨yW HB⟩⟩
      rw [if_neg c16] at H
      have c16b0:(((rd_L1 l0_0 x22_2).length:Int) == ((rd_L1 l0_0 0).length:Int))=false:=beq_eq_false_iff_ne.mpr c16
      have c16b1:(((rd_L1 l0_0 x22_2).length:Int) != ((rd_L1 l0_0 0).length:Int))=true:=bne_iff_ne.mpr c16
      have c16b2:((rd_L1 l0_0 x22_2).length == (rd_L1 l0_0 0).length)=false:=by first|simpa using c16|(simp at c16 ⊢;omega)
      obtain rfl:=Option.some.inj H
      have p118:0≤(x22_2:Int):=od D1
      have q118:x22_2 < (l0_0.length:Int):=od D1
      obtain ⟨ad118,A118_0,c118_0,e118,hx118_0,hl118_0,hi118_0⟩:=at_L1 HR0_0.out x22_2 p118 q118
      cases e118
      replace hx118_0:=(HB.out.cell (World.block_lt_of_cell? w _ hx118_0)).trans hx118_0
      have HR118_0:=am hi118_0
      have HC118_0:=am hl118_0
      clear hi118_0 hl118_0
      replace p118:=eq_true p118
      replace q118:=eq_true q118
      obtain ⟨hcz18_0,hfz18_0⟩:=yk1 BK114
      have p119:0≤(0:Int):=D23
      have q119:0 < (l0_0.length:Int):=od D1
      obtain ⟨ad119,A119_0,c119_0,e119,hx119_0,hl119_0,hi119_0⟩:=at_L1 HR0_0.out 0 p119 q119
      obtain rfl:ad118=ad119:=(by injection e119)
      have qi119:(0 < l0_0.length)=True:=eq_true D23
      (try rw [show ((0:Int)).toNat=0 from rfl] at hx119_0)
      (try rw [Addr.add_zero'] at hx119_0)
      replace hx119_0:=(HB.out.cell (World.block_lt_of_cell? w _ hx119_0)).trans hx119_0
      have HR119_0:=am hi119_0
      have HC119_0:=am hl119_0
      clear hi119_0 hl119_0
      replace p119:=eq_true p119
      replace q119:=eq_true q119
      go_wp2
      go_ret
      exact ⟨D0,yW HB⟩
     rw [if_neg c12] at H
     have c12b0:=decide_eq_false c12
     clear c12
     obtain rfl:=Option.some.inj H
     go_wp2
     go_ret
     exact ⟨D0,yW HB⟩

def spec_l1Add.l0:Nat→List Int→List Int→List Int→Int→Int→Option (List Int)
 | 0,_,_,_,_,_=>none
 | k+1,x0,x1,x5,x8,x9=>if x9 < x8 then (if 0≤x9 then (if x9 < (x0.length:Int) then (if x9 < (x1.length:Int) then (if x5.length < 140737488355328 then (spec_l1Add.l0 k x0 x1 (x5 ++ [Go.bits .xor .u8 (rd x0 x9) (rd x1 x9)]) x8 (wrap64 (x9+1))) else (none)) else (none)) else (none)) else (none)) else (some x5)
def spec_l1Add.f (k:Nat) (l0:List Int) (l1:List Int):Option (List Int):=spec_l1Add.l0 k l0 l1 ([]:List Int) (l0.length:Int) 0
theorem spec_l1Add.mono_l:∀ k,(∀ y0 y1 y2 y3 y4,LeO (spec_l1Add.l0 k y0 y1 y2 y3 y4) (spec_l1Add.l0 (k+1) y0 y1 y2 y3 y4))
 | 0=>fun _ _ _ _ _ r h=>by simp [spec_l1Add.l0] at h
 | k+1=>by
  have ih0:=spec_l1Add.mono_l k
  intro y0 y1 y2 y3 y4
  unfold spec_l1Add.l0
  exact mm
theorem spec_l1Add.mono:∀ a0 a1 k,LeO (spec_l1Add.f k a0 a1) (spec_l1Add.f (k+1) a0 a1):=by
 intro a0 a1 k
 have ih0:=spec_l1Add.mono_l k
 unfold spec_l1Add.f
 exact mm
def spec_l1Add.T5:Bool × List (List Nat × List Nat):=(true,[([],[]),([],[]),([],[]),([1,2],[1,2]),([3],[3]),([],[]),([],[]),([5,6],[5,6]),([7],[7]),([4,8],[4,8]),([9],[9]),([0,10],[0,10]),([11,11,0,1,2,3,4,5,6,7,8,9,10,11],[0,11])])
def spec_l1Add.B5:List Nat:=[0,0,0,6,14,0,0,96,224,510,1022,2047,4095]
theorem spec_l1Add.tab5:rtab .any (opsOf Try.f123 5)=spec_l1Add.T5:=by kernel_rfl
theorem spec_l1Add.bits5:waitsOk spec_l1Add.T5.2 spec_l1Add.B5=true:=by kernel_rfl
theorem spec_l1Add.calls (k:Nat) (A0:Option Addr) (c0:Nat) (l0:List Int) (A1:Option Addr) (c1:Nat) (l1:List Int) (r:List Int) (w:World) (hr0:Kd.C (Kd.int .u8) w A0 l0.length l0) (hc0:l0.length≤c0) (hr1:Kd.C (Kd.int .u8) w A1 l1.length l1) (hc1:l1.length≤c1) (h:spec_l1Add.f k l0 l1=some r) :
  Calls Try.prog 123 #[.slice A0 l0.length c0, .slice A1 l1.length c1] w fun e w'=>∃ v0_:Value,e = .returned (v0_)∧Kd.R (Kd.int .u8) 5 w' w.heap.size (fun _=>True) v0_ r∧Below w.heap.size w w':=by
 have HR0:=am hr0
 have HC0:=am hc0
 clear hr0 hc0
 have HR1:=am hr1
 have HC1:=am hc1
 clear hr1 hc1
 have HB:=am (Below.refl w.heap.size w)
 have H:=h
 unfold spec_l1Add.f at H
 clear h
 have H':=am H
 clear H
 go_enter Try.func123,Try.ntmps123
 go_wp2
 go_loopg [5,9] k (fun kq v5 v9 w'=>∃ (x5_1:List Int) (x9_1:Int),v9 = .int .i64 x9_1∧Aside0 (spec_l1Add.l0 kq l0 l1 x5_1 (l0.length:Int) x9_1=some r)∧Aside0 (kq≤k)∧Aside0 (Kd.R (Kd.int .u8) 5 w' w.heap.size (fun _=>True) v5 x5_1)∧Aside0 (Below w.heap.size w w'))
 case atStart=>exact ⟨(([]:List Int)),(0),D2,H',⟨Nat.le_refl _⟩,⟨D37⟩,⟨yW HB⟩⟩
 case round =>
  clear H'
  try clear c1
  try clear p2
  obtain ⟨x5_1,x9_1,rfl,HA,HK1,HO_5,HB⟩:=hrel
  cases gk with
  | zero=>exact absurd HA.out (by simp [spec_l1Add.l0])
  | succ k1 =>
   have H:=HA.out
   clear HA
   simp only [spec_l1Add.l0] at H
   by_cases c3:x9_1 < (l0.length:Int)
   ·rw [if_pos c3] at H
    have c3b0:=decide_eq_true c3
    clear c3
    obtain ⟨c4,H⟩:=yi H
    have c4b0:=decide_eq_true c4
    clear c4
    obtain ⟨c5,H⟩:=yi H
    have c5b0:=decide_eq_true c5
    clear c5
    obtain ⟨c6,H⟩:=yi H
    have c6b0:=decide_eq_true c6
    clear c6
    obtain ⟨c7,H⟩:=yi H
    have LMc7:=am c7
    clear c7
    generalize hy122:(x5_1 ++ [Go.bits .xor .u8 (rd l0 x9_1) (rd l1 x9_1)]:List Int)=y122 at H
    have Ny122:=am hy122.symm
    clear hy122
    have H':=am H
    clear H
    try go_wp2
    replace HO_5:=am (Kd.R_drew HO_5.out)
    replace HB:=am (pd HB.out)
    have p120:0≤(x9_1:Int):=od D1
    have q120:x9_1 < (l0.length:Int):=od D1
    obtain ⟨ad120,e120,hx120_0⟩:=Kd.at_int HR0.out x9_1 p120 q120
    have hw120_0:=hx120_0
    cases e120
    replace hx120_0:=(HB.out.cell (World.block_lt_of_cell? w _ hx120_0)).trans hx120_0
    replace p120:=eq_true p120
    replace q120:=eq_true q120
    have p121:0≤(x9_1:Int):=od D1
    have q121:x9_1 < (l1.length:Int):=od D1
    obtain ⟨ad121,e121,hx121_0⟩:=Kd.at_int HR1.out x9_1 p121 q121
    have hw121_0:=hx121_0
    cases e121
    replace hx121_0:=(HB.out.cell (World.block_lt_of_cell? w _ hx121_0)).trans hx121_0
    replace p121:=eq_true p121
    replace q121:=eq_true q121
    refine rS (n:=13) (S:=fun w'=>w'.cell? (ad120.add (x9_1).toNat)=some (.int .u8 (rd l0 x9_1))∧w'.cell? (ad121.add (x9_1).toNat)=some (.int .u8 (rd l1 x9_1))) (ds:=[]) [(0,12),(1,13),(2,14),(3,15),(5,17),(6,18),(7,19),(4,16),(8,20),(9,21),(10,0),(11,0),(12,5)] D3 rfl spec_l1Add.tab5 spec_l1Add.bits5 ⟨((HB.out.cell (World.block_lt_of_cell? w _ hw120_0)).trans hw120_0),((HB.out.cell (World.block_lt_of_cell? w _ hw121_0)).trans hw121_0)⟩ (fun hHeld HT_ HW_=>?_)
    generalize wr.drew=w8 at HO_5 HB hx120_0 hx121_0 hHeld ⊢
    refine rR ?_
    refine rO (N:=some 22) HT_ rfl rfl D3 D24 (fun K hK=>?_)
    refine value_ (w1:=?_) (v:=?_) D35 rfl ?_ ?_
    rotate_left 2
    ·go_simp
     constructor
     ·rfl
     rfl
    refine hK.out _ _ ⟨(World.cell?_alloc_lt _ _ _ (World.block_lt_of_cell? _ _ (((HB.out.cell (World.block_lt_of_cell? w _ hw120_0)).trans hw120_0)))).trans (((HB.out.cell (World.block_lt_of_cell? w _ hw120_0)).trans hw120_0)),(World.cell?_alloc_lt _ _ _ (World.block_lt_of_cell? _ _ (((HB.out.cell (World.block_lt_of_cell? w _ hw121_0)).trans hw121_0)))).trans (((HB.out.cell (World.block_lt_of_cell? w _ hw121_0)).trans hw121_0))⟩ (fun hHeld=>?_)
    clear hK K
    refine rN (nA 22) ?_
    refine rO (N:=some 23) HT_ rfl rfl D3 D24 (fun K hK=>?_)
    refine Kd.R_append_step (Kd.int .u8) (w0:=w) w.heap.size D35 (.tmp 12) (.tmp 22) 57 5 (.int .u8 0) 1 rfl Try.underlying57 info5 rfl D24 D23 u5 x5_1 (Go.bits .xor .u8 (rd l0 x9_1) (rd l1 x9_1)) [.int .u8 (Go.bits .xor .u8 (rd l0 x9_1) (rd l1 x9_1))] (fun _=>True) (fun _=>False) rfl rfl ?aP (fun _ hk=>hk.elim) ?aF ?aO ?aB ?aS ?aL ?_
    (case aP=>exact rfl)
    (case aB=>exact (yW HB))
    (case aF=>exact (fun _ _=>trivial))
    (case aO=>exact (yR HO_5))
    (case aS=>exact (pz (yW HB)))
    (case aL=>have:=LMc7.out;omega)
    intro v123 w9 ho hb hg hat
    rw [← Ny122.out] at ho
    have n0_:=am (hb)
    have n1_:=am (ho)
    clear HB
    clear HO_5
    have HB:=n0_
    have HO124:=n1_
    clear n0_ n1_
    clear ho hb hg hat
    refine hK.out _ _ ⟨((HB.out.cell (World.block_lt_of_cell? w _ hw120_0)).trans hw120_0),((HB.out.cell (World.block_lt_of_cell? w _ hw121_0)).trans hw121_0)⟩ (fun hHeld=>?_)
    clear hK K
    refine rN (nA 23) ?_
    refine rR ?_
    refine rD HT_ D3 ?_
    try go_wp2
    go_roundg k1
    case measure=>have:=HK1.out;omega
    case rel=>exact ⟨(y122),(wrap64 (x9_1+1)),D2,H',⟨D50⟩,⟨yR HO124⟩,⟨yW HB⟩⟩
   rw [if_neg c3] at H
   have c3b0:=decide_eq_false c3
   clear c3
   obtain rfl:=Option.some.inj H
   go_wp2
   go_ret
   exact ⟨_,D0,yR HO_5,yW HB⟩

def spec_l1Times.l0:Nat→Int→Int→Int→Option (Int)
 | 0,_,_,_=>none
 | k+1,x5,x6,x7=>if x7 > 0 then (if (Go.bits .and .i64 x7 1)=1 then (if (wrap64 (x6*2)) > 255 then (spec_l1Times.l0 k (Go.bits .xor .i64 x5 x6) (Go.bits .xor .i64 (wrap64 (x6*2)) 283) (x7 / 2)) else (spec_l1Times.l0 k (Go.bits .xor .i64 x5 x6) (wrap64 (x6*2)) (x7 / 2))) else (if (wrap64 (x6*2)) > 255 then (spec_l1Times.l0 k x5 (Go.bits .xor .i64 (wrap64 (x6*2)) 283) (x7 / 2)) else (spec_l1Times.l0 k x5 (wrap64 (x6*2)) (x7 / 2)))) else (some ((x5) % 256))
def spec_l1Times.f (k:Nat) (a0:Int) (a1:Int):Option (Int):=spec_l1Times.l0 k 0 (wrap64 (a0)) (wrap64 (a1))
theorem spec_l1Times.mono_l:∀ k,(∀ y0 y1 y2,LeO (spec_l1Times.l0 k y0 y1 y2) (spec_l1Times.l0 (k+1) y0 y1 y2))
 | 0=>fun _ _ _ r h=>by simp [spec_l1Times.l0] at h
 | k+1=>by
  have ih0:=spec_l1Times.mono_l k
  intro y0 y1 y2
  unfold spec_l1Times.l0
  exact mm
theorem spec_l1Times.mono:∀ a0 a1 k,LeO (spec_l1Times.f k a0 a1) (spec_l1Times.f (k+1) a0 a1):=by
 intro a0 a1 k
 have ih0:=spec_l1Times.mono_l k
 unfold spec_l1Times.f
 exact mm
theorem spec_l1Times.calls (k:Nat) (a0:Int) (a1:Int) (r:Int) (w:World) (h:spec_l1Times.f k a0 a1=some r) :
  Calls Try.prog 174 #[.int .u8 a0, .int .u8 a1] w fun e w'=>e = .returned (.int .u8 r)∧Drawn0 w w':=by
 have H:=h
 unfold spec_l1Times.f at H
 clear h
 have H':=am H
 clear H
 go_enter Try.func174,Try.ntmps174
 go_wp2
 go_loopg [5,6,7] k (fun kq v5 v6 v7 w'=>∃ (x5_1:Int) (x6_1:Int) (x7_1:Int),v5 = .int .i64 x5_1∧v6 = .int .i64 x6_1∧v7 = .int .i64 x7_1∧Aside0 (spec_l1Times.l0 kq x5_1 x6_1 x7_1=some r)∧Aside0 (kq≤k)∧Drawn0 w w')
 case atStart=>exact ⟨(0),(wrap64 (a0)),(wrap64 (a1)),D2,D2,D2,H',⟨Nat.le_refl _⟩,D34⟩
 case round =>
  clear H'
  try clear c1
  try clear p2
  obtain ⟨x5_1,x6_1,x7_1,rfl,rfl,rfl,HA,HK1,⟨m1,rfl⟩⟩:=hrel
  cases gk with
  | zero=>exact absurd HA.out (by simp [spec_l1Times.l0])
  | succ k1 =>
   have H:=HA.out
   clear HA
   simp only [spec_l1Times.l0] at H
   by_cases c3:x7_1 > 0
   ·rw [if_pos c3] at H
    have c3b0:decide (0 < x7_1)=true:=decide_eq_true c3
    clear c3
    by_cases c4:(Go.bits .and .i64 x7_1 1)=1
    ·rw [if_pos c4] at H
     have c4b0:((Go.bits .and .i64 x7_1 1) == 1)=true:=beq_iff_eq.mpr c4
     have c4b1:((Go.bits .and .i64 x7_1 1) != 1)=false:=bne_eq_false_iff_eq.mpr c4
     clear c4
     by_cases c5:(wrap64 (x6_1*2)) > 255
     ·rw [if_pos c5] at H
      have c5b0:decide (255 < (wrap64 (x6_1*2)))=true:=decide_eq_true c5
      clear c5
      have H':=am H
      clear H
      go_wp2
      go_roundg k1
      case measure=>have:=HK1.out;omega
      case rel=>exact ⟨(Go.bits .xor .i64 x5_1 x6_1),(Go.bits .xor .i64 (wrap64 (x6_1*2)) 283),(x7_1 / 2),D2,D2,D2,H',⟨D50⟩,D34⟩
     rw [if_neg c5] at H
     have c5b0:decide (255 < (wrap64 (x6_1*2)))=false:=decide_eq_false c5
     clear c5
     have H':=am H
     clear H
     go_wp2
     go_roundg k1
     case measure=>have:=HK1.out;omega
     case rel=>exact ⟨(Go.bits .xor .i64 x5_1 x6_1),(wrap64 (x6_1*2)),(x7_1 / 2),D2,D2,D2,H',⟨D50⟩,D34⟩
    rw [if_neg c4] at H
    have c4b0:((Go.bits .and .i64 x7_1 1) == 1)=false:=beq_eq_false_iff_ne.mpr c4
    have c4b1:((Go.bits .and .i64 x7_1 1) != 1)=true:=bne_iff_ne.mpr c4
    by_cases c6:(wrap64 (x6_1*2)) > 255
    ·rw [if_pos c6] at H
     have c6b0:decide (255 < (wrap64 (x6_1*2)))=true:=decide_eq_true c6
     clear c6
     have H':=am H
     clear H
     go_wp2
     go_roundg k1
     case measure=>have:=HK1.out;omega
     case rel=>exact ⟨(x5_1),(Go.bits .xor .i64 (wrap64 (x6_1*2)) 283),(x7_1 / 2),D2,D2,D2,H',⟨D50⟩,D34⟩
    rw [if_neg c6] at H
    have c6b0:decide (255 < (wrap64 (x6_1*2)))=false:=decide_eq_false c6
    clear c6
    have H':=am H
    clear H
    go_wp2
    go_roundg k1
    case measure=>have:=HK1.out;omega
    case rel=>exact ⟨(x5_1),(wrap64 (x6_1*2)),(x7_1 / 2),D2,D2,D2,H',⟨D50⟩,D34⟩
   rw [if_neg c3] at H
   have c3b0:decide (0 < x7_1)=false:=decide_eq_false c3
   clear c3
   obtain rfl:=Option.some.inj H
   go_wp2
   go_ret
   exact ⟨D2,D34⟩

def spec_l1Scale.l0:Nat→Int→List Int→List Int→Int→Int→Option (List Int)
 | 0,_,_,_,_,_=>none
 | k+1,x0,x5,x8,x9,x10=>if x10 < x9 then (if 0≤x10 then (if x10 < (x8.length:Int) then ((spec_l1Times.f k x0 (rd x8 x10)).bind fun t126=>(if x5.length < 140737488355328 then (spec_l1Scale.l0 k x0 (x5 ++ [t126]) x8 x9 (wrap64 (x10+1))) else (none))) else (none)) else (none)) else (some x5)
def spec_l1Scale.f (k:Nat) (a0:Int) (l1:List Int):Option (List Int):=spec_l1Scale.l0 k a0 ([]:List Int) l1 (l1.length:Int) 0
theorem spec_l1Scale.mono_l:∀ k,(∀ y0 y1 y2 y3 y4,LeO (spec_l1Scale.l0 k y0 y1 y2 y3 y4) (spec_l1Scale.l0 (k+1) y0 y1 y2 y3 y4))
 | 0=>fun _ _ _ _ _ r h=>by simp [spec_l1Scale.l0] at h
 | k+1=>by
  have ih0:=spec_l1Scale.mono_l k
  intro y0 y1 y2 y3 y4
  unfold spec_l1Scale.l0
  exact mm
theorem spec_l1Scale.mono:∀ a0 a1 k,LeO (spec_l1Scale.f k a0 a1) (spec_l1Scale.f (k+1) a0 a1):=by
 intro a0 a1 k
 have ih0:=spec_l1Scale.mono_l k
 unfold spec_l1Scale.f
 exact mm
theorem spec_l1Scale.calls (k:Nat) (a0:Int) (A1:Option Addr) (c1:Nat) (l1:List Int) (r:List Int) (w:World) (hr1:Kd.C (Kd.int .u8) w A1 l1.length l1) (hc1:l1.length≤c1) (h:spec_l1Scale.f k a0 l1=some r) :
  Calls Try.prog 124 #[.int .u8 a0, .slice A1 l1.length c1] w fun e w'=>∃ v0_:Value,e = .returned (v0_)∧Kd.R (Kd.int .u8) 5 w' w.heap.size (fun _=>True) v0_ r∧Below w.heap.size w w':=by
 have HR1:=am hr1
 have HC1:=am hc1
 clear hr1 hc1
 have HB:=am (Below.refl w.heap.size w)
 have H:=h
 unfold spec_l1Scale.f at H
 clear h
 have H':=am H
 clear H
 go_enter Try.func124,Try.ntmps124
 go_wp2
 go_loopg [5,10] k (fun kq v5 v10 w'=>∃ (x5_1:List Int) (x10_1:Int),v10 = .int .i64 x10_1∧Aside0 (spec_l1Scale.l0 kq a0 x5_1 l1 (l1.length:Int) x10_1=some r)∧Aside0 (kq≤k)∧Aside0 (Kd.R (Kd.int .u8) 5 w' w.heap.size (fun _=>True) v5 x5_1)∧Aside0 (Below w.heap.size w w'))
 case atStart=>exact ⟨(([]:List Int)),(0),D2,H',⟨Nat.le_refl _⟩,⟨D37⟩,⟨yW HB⟩⟩
 case round =>
  clear H'
  try clear c1
  try clear p2
  obtain ⟨x5_1,x10_1,rfl,HA,HK1,HO_5,HB⟩:=hrel
  cases gk with
  | zero=>exact absurd HA.out (by simp [spec_l1Scale.l0])
  | succ k1 =>
   have H:=HA.out
   clear HA
   simp only [spec_l1Scale.l0] at H
   by_cases c3:x10_1 < (l1.length:Int)
   ·rw [if_pos c3] at H
    have c3b0:=decide_eq_true c3
    clear c3
    obtain ⟨c4,H⟩:=yi H
    have c4b0:=decide_eq_true c4
    clear c4
    obtain ⟨c5,H⟩:=yi H
    have c5b0:=decide_eq_true c5
    clear c5
    obtain ⟨t126,A6,H⟩:=yo H
    obtain ⟨c7,H⟩:=yi H
    have LMc7:=am c7
    clear c7
    generalize hy127:(x5_1 ++ [t126]:List Int)=y127 at H
    have Ny127:=am hy127.symm
    clear hy127
    have H':=am H
    clear H
    have p125:0≤(x10_1:Int):=od D1
    have q125:x10_1 < (l1.length:Int):=od D1
    obtain ⟨ad125,e125,hx125_0⟩:=Kd.at_int HR1.out x10_1 p125 q125
    cases e125
    replace hx125_0:=(HB.out.cell (World.block_lt_of_cell? w _ hx125_0)).trans hx125_0
    replace p125:=eq_true p125
    replace q125:=eq_true q125
    go_wp2_with (first|((with_reducible refine gC 174 ?_);refine gM (some 17) Try.func174 (args:=#[.int .u8 a0, .int .u8 (rd l1 x10_1)]) (spec_l1Times.calls k1 a0 (rd l1 x10_1) t126 _ A6.out) ?_;rintro e w' ⟨rfl,⟨nd,rfl⟩⟩;refine ⟨_,rfl,?_⟩)|((with_reducible refine gate_builtin (b:=.append) (xs:=#[.tmp 14, .tmp 18]) rfl ?_);at_builtin;refine Kd.R_append (Kd.int .u8) (w0:=w) w.heap.size rfl (.tmp 14) (.tmp 18) 57 5 (.int .u8 0) 1 rfl Try.underlying57 info5 rfl D24 D23 u5 x5_1 t126 [.int .u8 t126] (fun _=>True) (fun _=>False) rfl rfl (by exact rfl) (fun _ hk=>hk.elim) D75 (by exact (yR HO_5)) D135 D87 (by have:=LMc7.out;omega) ?_;intro v128 w8 ho hb hg hat;rw [← Ny127.out] at ho;have n0_:=am (hb);have n1_:=am (ho);clear HB HO_5;have HB:=n0_;have HO129:=n1_;clear n0_ n1_ ho hb hg hat))
    go_roundg k1
    case measure=>have:=HK1.out;omega
    case rel=>exact ⟨(y127),(wrap64 (x10_1+1)),D2,H',⟨D50⟩,⟨yR HO129⟩,⟨yW HB⟩⟩
   rw [if_neg c3] at H
   have c3b0:=decide_eq_false c3
   clear c3
   obtain rfl:=Option.some.inj H
   go_wp2
   go_ret
   exact ⟨_,D0,yR HO_5,yW HB⟩
def spec_l2Own.l0:Nat→List (List Int)→Int→Int→List (List Int)→Option ((List (List Int)))
 | 0,_,_,_,_=>none
 | k+1,x8,x9,x10,x133000=>if x10 < x9 then (if 0≤x10 then (if x10 < (x8.length:Int) then ((some (([]:List Int):List Int)).bind fun y134=>(if y134.length+(rd_L1 x8 x10).length < 140737488355328 then (if x133000.length < 5864062014805 then (spec_l2Own.l0 k x8 x9 (wrap64 (x10+1)) (x133000 ++ [(y134 ++ (rd_L1 x8 x10))])) else (none)) else (none))) else (none)) else (none)) else (some x133000)
def spec_l2Own.f (k:Nat) (l0_0:List (List Int)):Option ((List (List Int))):=spec_l2Own.l0 k l0_0 (l0_0.length:Int) 0 ([]:List (List Int))
theorem spec_l2Own.mono_l:∀ k,(∀ y0 y1 y2 y3,LeO (spec_l2Own.l0 k y0 y1 y2 y3) (spec_l2Own.l0 (k+1) y0 y1 y2 y3))
 | 0=>fun _ _ _ _ r h=>by simp [spec_l2Own.l0] at h
 | k+1=>by
  have ih0:=spec_l2Own.mono_l k
  intro y0 y1 y2 y3
  unfold spec_l2Own.l0
  exact mm
theorem spec_l2Own.mono:∀ a0 k,LeO (spec_l2Own.f k a0) (spec_l2Own.f (k+1) a0):=by
 intro a0 k
 have ih0:=spec_l2Own.mono_l k
 unfold spec_l2Own.f
 exact mm
def spec_l2Own.T5:Bool × List (List Nat × List Nat):=(true,[([],[]),([0],[0]),([],[]),([],[]),([2,3],[2,3]),([4],[4]),([1,5,4],[1,5]),([0,1,2,3,4,5,6],[]),([7,6,6,0,1,2,3,4,5,6],[6,7])])
def spec_l2Own.B5:List Nat:=[0,1,0,0,12,28,63,127,255]
theorem spec_l2Own.tab5:rtab .any (opsOf Try.f202 5)=spec_l2Own.T5:=by kernel_rfl
theorem spec_l2Own.bits5:waitsOk spec_l2Own.T5.2 spec_l2Own.B5=true:=by kernel_rfl
theorem spec_l2Own.calls (k:Nat) (A0_0:Option Addr) (c0_0:Nat) (l0_0:List (List Int)) (r:List (List Int)) (w:World) (hr0_0:Kd.C (Kd.slice 5 (Kd.int .u8)) w A0_0 l0_0.length l0_0) (hc0_0:l0_0.length≤c0_0) (h:spec_l2Own.f k l0_0=some r) :
  Calls Try.prog 202 #[.agg #[.slice A0_0 l0_0.length c0_0]] w fun e w'=>∃ v0_:Value,e = .returned (.agg #[v0_])∧Kd.S (Kd.slice 5 (Kd.int .u8)) 57 w' w.heap.size (fun _=>True) v0_ r∧Below w.heap.size w w':=by
 have hu43:=Try.underlying43
 have HR0_0:=am hr0_0
 have HC0_0:=am hc0_0
 clear hr0_0 hc0_0
 have HB:=am (Below.refl w.heap.size w)
 have H:=h
 unfold spec_l2Own.f at H
 clear h
 have H':=am H
 clear H
 go_enter Try.func202,Try.ntmps202
 go_wp2_with (first|((with_reducible refine gD 1 ?_);refine gB (cs:=#[.slice A0_0 l0_0.length c0_0]) 43 ?_;intro gb130 hg w2 hbox hb;have BK130:=am (hbox);have GW130:=ye HB hg;replace HB:=yH HB hb;have GE130:=GW130;clear hb hbox hg)|((with_reducible refine gD 2 ?_);refine gB (cs:=#[.slice none 0 0]) 43 ?_;intro gb131 hg w3 hbox hb;have BK131:=am (hbox);have GW131:=ye HB hg;replace HB:=yH HB hb;have NB130_131:=yl BK130 hg;have NB131_130:=yg BK130 hg;replace BK130:=yb BK130 hb;have GE131:=GW131;clear hb hbox hg)|((with_reducible refine gD 3 ?_);refine gB (cs:=#[.slice none 0 0]) 43 ?_;intro gb132 hg w4 hbox hb;have BK132:=am (hbox);have GW132:=ye HB hg;replace HB:=yH HB hb;have NB130_132:=yl BK130 hg;have NB132_130:=yg BK130 hg;replace BK130:=yb BK130 hb;have NB131_132:=yl BK131 hg;have NB132_131:=yg BK131 hg;replace BK131:=yb BK131 hb;have GE132:=GW132;clear hb hbox hg;have hnb5:=NB132_130.out;have hnc5:=NB130_132.out;have hnb6:=NB132_131.out;have hnc6:=NB131_132.out;obtain ⟨hcz7_0,hfz7_0⟩:=yk1 BK132;have hnb8:=NB130_131.out;have hnc8:=NB131_130.out;obtain ⟨hcz9_0,hfz9_0⟩:=yk1 BK130))
 go_loopg [10] k (fun kq v10 w'=>∃ (x10_1:Int) (x133000_1:List (List Int)) (u133000:Value),v10 = .int .i64 x10_1∧Aside0 (spec_l2Own.l0 kq l0_0 (l0_0.length:Int) x10_1 x133000_1=some r)∧Aside0 (kq≤k)∧Aside0 (Kd.S (Kd.slice 5 (Kd.int .u8)) 57 w' w.heap.size (fun _=>True) u133000 x133000_1)∧Aside0 (w'.heap[gb130]? = some (.cells #[(.slice A0_0 l0_0.length c0_0)] 43 (0,0)))∧Aside0 (w'.heap[gb131]? = some (.cells #[(.slice none 0 0)] 43 (0,0)))∧Aside0 (w'.heap[gb132]? = some (.cells #[u133000] 43 (0,0)))∧Aside0 (Below w.heap.size w w'))
 case atStart=>exact ⟨(0),(([]:List (List Int))),(.slice none 0 0),D2,H',⟨Nat.le_refl _⟩,⟨D25⟩,⟨yF BK130⟩,⟨yF BK131⟩,⟨by refine sB ?_;refine blk_put (cs:=#[.slice none 0 0]) ?_ 0 _ rfl;exact yB BK132⟩,⟨yW HB⟩⟩
 case round =>
  clear H'
  try clear c2
  try clear p2
  try clear c5
  try clear c6
  try clear c8
  try clear hcz7_0
  try clear hcz9_0
  try clear hfz7_0
  try clear hfz9_0
  obtain ⟨x10_1,x133000_1,u133000,rfl,HA,HK1,HO_133000,BK130,BK131,BK132,HB⟩:=hrel
  cases gk with
  | zero=>exact absurd HA.out (by simp [spec_l2Own.l0])
  | succ k1 =>
   have H:=HA.out
   clear HA
   simp only [spec_l2Own.l0] at H
   by_cases c10:x10_1 < (l0_0.length:Int)
   ·rw [if_pos c10] at H
    have c10b0:=decide_eq_true c10
    clear c10
    obtain ⟨c11,H⟩:=yi H
    have c11b0:=decide_eq_true c11
    clear c11
    obtain ⟨c12,H⟩:=yi H
    have c12b0:=decide_eq_true c12
    clear c12
    obtain ⟨y134,hy134,H⟩:=ys H
    have Ny134:=am hy134
    clear hy134
    obtain ⟨c13,H⟩:=yi H
    have LMc13:=am c13
    clear c13
    generalize hy137:(y134 ++ (rd_L1 l0_0 x10_1):List Int)=y137 at H
    have Ny137:=am hy137.symm
    clear hy137
    obtain ⟨c14,H⟩:=yi H
    have LMc14:=am c14
    clear c14
    generalize hy140:(x133000_1 ++ [y137]:List (List Int))=y140 at H
    have Ny140:=am hy140.symm
    clear hy140
    have H':=am H
    clear H
    have p133:0≤(x10_1:Int):=od D1
    have q133:x10_1 < (l0_0.length:Int):=od D1
    obtain ⟨ad133,A133_0,c133_0,e133,hx133_0,hl133_0,hi133_0⟩:=at_L1 HR0_0.out x10_1 p133 q133
    cases e133
    replace hx133_0:=(HB.out.cell (World.block_lt_of_cell? w _ hx133_0)).trans hx133_0
    have HR133_0:=am hi133_0
    have HC133_0:=am hl133_0
    clear hi133_0 hl133_0
    replace p133:=eq_true p133
    replace q133:=eq_true q133
    try go_wp2
    replace HO_133000:=am (Kd.S_drew HO_133000.out)
    replace BK130:=am (qd BK130.out)
    replace BK131:=am (qd BK131.out)
    replace BK132:=am (qd BK132.out)
    replace HB:=am (pd HB.out)
    refine rS (n:=9) (S:=fun w'=>w'.cell? ⟨gb132,0,none⟩=some (u133000)) (ds:=[8]) [(0,14),(3,17),(1,15),(2,0),(4,0),(5,0),(6,0),(7,21),(8,0)] D3 rfl spec_l2Own.tab5 spec_l2Own.bits5 (yk BK132 0) (fun hHeld HT_ HW_=>?_)
    generalize wr.drew=w15 at HO_133000 BK130 BK131 BK132 HB hHeld ⊢
    refine rR ?_
    refine rO (N:=some 16) HT_ rfl rfl D3 D24 (fun K hK=>?_)
    refine Kd.R_lit_step (Kd.int .u8) _ 5 ?hg (N:=16) ?hd (xs:=([]:List Int)) (inner:=[]) (ok:=fun _=>True) (okp:=fun _=>True) ?hr ?hp (fun _ hk=>hk) trivial (Below.refl _ _) (Nat.le_refl _) D52 ?_;(case hd=>rfl);(case hg=>rfl);(case hr=>first|(go_simp;done)|(go_simp;rfl));(case hp=>exact (Reps.none _ _))
    intro v135 w16 ho17 hb hg_ hnew_
    clear hg_ hnew_
    (first|rw [← Ny134.out] at ho17|(simp only [Int.reduceToNat] at ho17;rw [← Ny134.out] at ho17))
    replace HO_133000:=eS HO_133000 (Kd.R_base ho17) hb
    have HO136:=am (Kd.R_lower ho17 (pz (yW HB)))
    replace BK130:=yb BK130 hb
    replace BK131:=yb BK131 hb
    replace BK132:=yb BK132 hb
    replace HB:=yH HB hb
    clear hb ho17
    refine hK.out _ _ (yk BK132 0) (fun hHeld=>?_)
    clear hK K
    refine rN (nA 16) ?_
    refine rO (N:=some 18) HT_ rfl rfl D3 D24 (fun K hK=>?_)
    refine Kd.R_append_rows_step (Kd.int .u8) (w0:=w) w.heap.size D35 (.tmp 16) (.tmp 17) 57 5 (.int .u8 0) 1 rfl Try.underlying57 info5 rfl D24 D23 v135 y134 (rd_L1 l0_0 x10_1) _ _ _ (fun _=>True) (fun _=>False) rfl rfl ?aO ?aR (fun _ _ h=>h) (fun _ h=>h.elim) ?aF ?aB ?aS ?aL ?_
    (case aR=>repeat (first|exact (Kd.C_below HR133_0.out HB.out)|(with_reducible refine Kd.C_alloc ?_ _)|(with_reducible refine Kd.C_drewN ?_ _)|(with_reducible refine Kd.C_drew ?_)))
    (case aB=>exact (yW HB))
    (case aF=>exact (fun _ _=>trivial))
    (case aO=>exact (yR HO136))
    (case aS=>exact (pz (yW HB)))
    (case aL=>have:=LMc13.out;omega)
    intro v138 w18 ho hb hg hat
    rw [← Ny137.out] at ho
    have n0_:=am (Kd.S_after (ok:=(fun _=>True)) (yS HO_133000) hg hat)
    have n1_:=am (blk_grown (g:=gb130) (o:=.cells #[.slice (some ad133) l0_0.length c0_0] 43 (0,0)) (yB BK130) hg (Kd.R_ne HO136.out BK130.out D24))
    have n2_:=am (blk_grown (g:=gb131) (o:=.cells #[.slice none 0 0] 43 (0,0)) (yB BK131) hg (Kd.R_ne HO136.out BK131.out D24))
    have n3_:=am (blk_grown (g:=gb132) (o:=.cells #[u133000] 43 (0,0)) (yB BK132) hg (Kd.R_ne HO136.out BK132.out D24))
    have n4_:=am (hb)
    have n5_:=am (ho)
    clear HO_133000
    clear BK130
    clear BK131
    clear BK132
    clear HB
    clear HO136
    have HO_133000:=n0_
    have BK130:=n1_
    have BK131:=n2_
    have BK132:=n3_
    have HB:=n4_
    have HO139:=n5_
    clear n0_ n1_ n2_ n3_ n4_ n5_
    clear ho hb hg hat
    obtain ⟨Ao20,co20,eo20⟩:=Kd.R_slice HO139.out
    (first|subst eo20|(injection eo20 with f1_ f2_ f3_;have f4_:=f1_.symm;have f5_:=f3_.symm;clear f1_ f2_ f3_;subst f4_;subst f5_))
    refine hK.out _ _ (yk BK132 0) (fun hHeld=>?_)
    clear hK K
    refine rN (nA 18) ?_
    refine rO (N:=some 19) HT_ rfl rfl D3 D24 (fun K hK=>?_)
    refine value_ (w1:=?_) (v:=?_) D35 rfl ?_ ?_
    rotate_left 2
    ·go_simp
     constructor
     ·rfl
     rfl
    refine hK.out _ _ ((blk_cell (qa BK132.out _) 0).trans rfl) (fun hHeld=>?_)
    clear hK K
    refine rN (nA 19) ?_
    refine rO (N:=some 20) HT_ rfl rfl D3 D24 (fun K hK=>?_)
    refine Kd.S_append_step (Kd.slice 5 (Kd.int .u8)) (w0:=w) w.heap.size D35 (.tmp 15) (.tmp 19) 37 57 (.slice none 0 0) 24 rfl Try.underlying37 info57 rfl D24 D23 u133000 x133000_1 y137 [.slice Ao20 y137.length co20] (fun _=>True) (fun k_=>some k_=(.slice Ao20 y137.length co20:Value).ownBlock) rfl rfl ?aP (fun k_ hk_=>((Kd.R_mono (ok':=fun k_=>((fun _=>True)) k_∧some k_ ≠ (u133000:Value).ownBlock) (Kd.R_apart' (HO139.out) (Kd.S_typed HO_133000.out) D24) (fun k_ hk=>⟨trivial,hk.2⟩))).1 k_ hk_.symm) ?aF ?aO ?aB ?aS ?aL ?_
    (case aP=>exact Kd.M_row (Kd.R_mono (Kd.R_tight rfl (Kd.R_mono (ok':=fun k_=>((fun _=>True)) k_∧some k_ ≠ (u133000:Value).ownBlock) (Kd.R_apart' (HO139.out) (Kd.S_typed HO_133000.out) D24) (fun k_ hk=>⟨trivial,hk.2⟩))) (fun _ h_=>h_)))
    (case aB=>exact (yW HB))
    (case aF=>exact (fun _ _=>trivial))
    (case aO=>exact (by refine sS ?_;exact Kd.S_mono HO_133000.out (fun k_ hk=>⟨trivial,fun e_=>hk.2 e_⟩)))
    (case aS=>exact (pz (yW HB)))
    (case aL=>have:=LMc14.out;omega)
    intro v141 w19 ho hb hg hat
    rw [← Ny140.out] at ho
    have n0_:=am (blk_grown (g:=gb130) (o:=.cells #[.slice (some ad133) l0_0.length c0_0] 43 (0,0)) (yB BK130) hg (Kd.S_ne HO_133000.out BK130.out D24))
    have n1_:=am (blk_grown (g:=gb131) (o:=.cells #[.slice none 0 0] 43 (0,0)) (yB BK131) hg (Kd.S_ne HO_133000.out BK131.out D24))
    have n2_:=am (blk_grown (g:=gb132) (o:=.cells #[u133000] 43 (0,0)) (yB BK132) hg (Kd.S_ne HO_133000.out BK132.out D24))
    have n3_:=am (hb)
    have n4_:=am (ho)
    clear BK130
    clear BK131
    clear BK132
    clear HB
    clear HO_133000
    clear HO139
    have BK130:=n0_
    have BK131:=n1_
    have BK132:=n2_
    have HB:=n3_
    have HO142:=n4_
    clear n0_ n1_ n2_ n3_ n4_
    clear ho hb hg hat
    obtain ⟨Ao21,co21,eo21⟩:=Kd.S_slice HO142.out
    (first|subst eo21|(injection eo21 with f1_ f2_ f3_;have f4_:=f1_.symm;have f5_:=f3_.symm;clear f1_ f2_ f3_;subst f4_;subst f5_))
    refine hK.out _ _ (yk BK132 0) (fun hHeld=>?_)
    clear hK K
    refine rN (nA 20) ?_
    refine rR ?_
    refine rL (N:=none) HT_ rfl rfl D3 D24 (fun K hK=>?_)
    have hs22:w19.cell? ⟨gb132,0,none⟩=some (u133000):=(blk_cell BK132.out 0).trans rfl
    have hfs22:=blk_frozen BK132.out 0
    have hns22_0:=NB130_132.out
    have hns22_1:=NB131_132.out
    have hms22_0:=NB132_130.out
    have hms22_1:=NB132_131.out
    refine skip_ (w1:=?_) D35 rfl ?_ ?_
    rotate_left
    ·go_simp
     rfl
    refine hK.out _ _ ?_
    clear hK K
    refine rD HT_ D3 ?_
    try go_wp2
    go_roundg k1
    case measure=>have:=HK1.out;omega
    case rel=>exact ⟨(wrap64 (x10_1+1)),(y140),(.slice Ao21 y140.length co21),D2,H',⟨D50⟩,⟨by refine sS ?_;exact Kd.S_mono (Kd.S_far (p:=⟨gb132,0,none⟩) (Kd.S_types HO142.out BK132.out D24) (fun _ hk=>hk.2) (.slice Ao21 y140.length co21)) (fun _ hk=>trivial)⟩,⟨yF BK130⟩,⟨yF BK131⟩,⟨by refine sB ?_;refine blk_put (cs:=#[u133000]) ?_ 0 _ rfl;exact yB BK132⟩,⟨yW HB⟩⟩
   rw [if_neg c10] at H
   have c10b0:=decide_eq_false c10
   clear c10
   obtain rfl:=Option.some.inj H
   have hnb23:=NB132_130.out
   have hnc23:=NB130_132.out
   have hnb24:=NB132_131.out
   have hnc24:=NB131_132.out
   obtain ⟨hcz25_0,hfz25_0⟩:=yk1 BK132
   obtain ⟨Ao26,co26,eo26⟩:=Kd.S_slice HO_133000.out
   subst eo26
   have hnb27:=NB131_130.out
   have hnc27:=NB130_131.out
   obtain ⟨hcz28_0,hfz28_0⟩:=yk1 BK131
   go_wp2
   refine bodyPost_ret (results_cell_row rfl _ _ gb131 43 #[.slice Ao26 x133000_1.length co26] (0,0) _ rfl (by refine sB ?_;refine blk_put (cs:=#[.slice none 0 0]) ?_ 0 _ rfl;exact yB BK131) Try.underlying43 rfl D3) rfl ?_
   exact ⟨_,D0,by refine sS ?_;exact Kd.S_mono (Kd.S_far (p:=⟨gb131,0,none⟩) (Kd.S_types HO_133000.out BK131.out D24) (fun _ hk=>hk.2) (.slice Ao26 x133000_1.length co26)) (fun _ hk=>trivial),yW HB⟩

def spec_l1Power.l0:Nat→Int→Int→Int→Option (Int)
 | 0,_,_,_=>none
 | k+1,x0,x1,x5=>if x1 > 0 then ((spec_l1Times.f k x5 x0).bind fun t143=>(spec_l1Power.l0 k x0 (wrap64 (x1 - 1)) t143)) else (some x5)
def spec_l1Power.f (k:Nat) (a0:Int) (a1:Int):Option (Int):=spec_l1Power.l0 k a0 a1 1
theorem spec_l1Power.mono_l:∀ k,(∀ y0 y1 y2,LeO (spec_l1Power.l0 k y0 y1 y2) (spec_l1Power.l0 (k+1) y0 y1 y2))
 | 0=>fun _ _ _ r h=>by simp [spec_l1Power.l0] at h
 | k+1=>by
  have ih0:=spec_l1Power.mono_l k
  intro y0 y1 y2
  unfold spec_l1Power.l0
  exact mm
theorem spec_l1Power.mono:∀ a0 a1 k,LeO (spec_l1Power.f k a0 a1) (spec_l1Power.f (k+1) a0 a1):=by
 intro a0 a1 k
 have ih0:=spec_l1Power.mono_l k
 unfold spec_l1Power.f
 exact mm
theorem spec_l1Power.calls (k:Nat) (a0:Int) (a1:Int) (r:Int) (w:World) (h:spec_l1Power.f k a0 a1=some r) :
  Calls Try.prog 173 #[.int .u8 a0, .int .i64 a1] w fun e w'=>e = .returned (.int .u8 r)∧Drawn0 w w':=by
 have H:=h
 unfold spec_l1Power.f at H
 clear h
 have H':=am H
 clear H
 go_enter Try.func173,Try.ntmps173
 go_wp2
 go_loopg [1,5] k (fun kq v1 v5 w'=>∃ (x1_1:Int) (x5_1:Int),v1 = .int .i64 x1_1∧v5 = .int .u8 x5_1∧Aside0 (spec_l1Power.l0 kq a0 x1_1 x5_1=some r)∧Aside0 (kq≤k)∧Drawn0 w w')
 case atStart=>exact ⟨(a1),(1),D2,D2,H',⟨Nat.le_refl _⟩,D34⟩
 case round =>
  clear H'
  try clear c1
  try clear p2
  obtain ⟨x1_1,x5_1,rfl,rfl,HA,HK1,⟨m1,rfl⟩⟩:=hrel
  cases gk with
  | zero=>exact absurd HA.out (by simp [spec_l1Power.l0])
  | succ k1 =>
   have H:=HA.out
   clear HA
   simp only [spec_l1Power.l0] at H
   by_cases c3:x1_1 > 0
   ·rw [if_pos c3] at H
    have c3b0:decide (0 < x1_1)=true:=decide_eq_true c3
    clear c3
    obtain ⟨t143,A4,H⟩:=yo H
    have H':=am H
    clear H
    go_wp2_with (first|((with_reducible refine gC 174 ?_);refine gM (some 12) Try.func174 (args:=#[.int .u8 x5_1, .int .u8 a0]) (spec_l1Times.calls k1 x5_1 a0 t143 _ A4.out) ?_;rintro e w' ⟨rfl,⟨nd,rfl⟩⟩;refine ⟨_,rfl,?_⟩))
    go_roundg k1
    case measure=>have:=HK1.out;omega
    case rel=>exact ⟨(wrap64 (x1_1 - 1)),(t143),D2,D2,H',⟨D50⟩,D34⟩
   rw [if_neg c3] at H
   have c3b0:decide (0 < x1_1)=false:=decide_eq_false c3
   clear c3
   obtain rfl:=Option.some.inj H
   go_wp2
   go_ret
   exact ⟨D2,D34⟩

def spec_l1Inverse.f (k:Nat) (a0:Int):Option (Int):=if a0=0 then (some 0) else ((spec_l1Power.f k a0 254).bind fun t144=>(some t144))
theorem spec_l1Inverse.mono:∀ a0 k,LeO (spec_l1Inverse.f k a0) (spec_l1Inverse.f (k+1) a0):=by
 intro a0 k
 unfold spec_l1Inverse.f
 exact mm
theorem spec_l1Inverse.calls (k:Nat) (a0:Int) (r:Int) (w:World) (h:spec_l1Inverse.f k a0=some r) :
  Calls Try.prog 203 #[.int .u8 a0] w fun e w'=>e = .returned (.int .u8 r)∧Drawn0 w w':=by
 have H:=h
 unfold spec_l1Inverse.f at H
 clear h
 by_cases c2:a0=0
 ·rw [if_pos c2] at H
  have c2b0:(a0 == 0)=true:=beq_iff_eq.mpr c2
  have c2b1:(a0 != 0)=false:=bne_eq_false_iff_eq.mpr c2
  clear c2
  obtain rfl:=Option.some.inj H
  go_enter Try.func203,Try.ntmps203
  go_wp2
  go_ret
  exact ⟨D2,D34⟩
 rw [if_neg c2] at H
 have c2b0:(a0 == 0)=false:=beq_eq_false_iff_ne.mpr c2
 have c2b1:(a0 != 0)=true:=bne_iff_ne.mpr c2
 obtain ⟨t144,A3,H⟩:=yo H
 obtain rfl:=Option.some.inj H
 go_enter Try.func203,Try.ntmps203
 go_wp2_with (first|((with_reducible refine gC 173 ?_);refine gM (some 6) Try.func173 (args:=#[.int .u8 a0, .int .i64 254]) (spec_l1Power.calls k a0 254 t144 _ A3.out) ?_;rintro e w' ⟨rfl,⟨nd,rfl⟩⟩;refine ⟨_,rfl,?_⟩))
 go_ret
 exact ⟨D2,D34⟩
end Go.Proofs.Ytajikfnpcobnpaa.PFnMatrices
-- SQUEEZED
