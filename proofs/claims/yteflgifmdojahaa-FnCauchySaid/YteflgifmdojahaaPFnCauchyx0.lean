import Derived.Test.YteflgifmdojahaaVFnCauchyB
import Derived.Test.YteflgifmdojahaaProg
import Derived.Below
import Derived.Deep.Draws
import Derived.Deep.AppendLies
import Derived.Maps.AppendAt
import Derived.OwnWalk
import Derived.Laws.BytesArg
import Derived.Laws.MakeOwn
import Derived.Laws.OwnMore
import Derived.Deep.OwnRows
import Derived.Tactics
import Derived.Lib.ConvBytes
import Derived.Laws.Slices
import Derived.WalkKit
import Derived.KernelRfl
import Derived.RowKit3
import Derived.Deep.LoopGhost
import Derived.Deep.QuietTactic
import Derived.BigQuiet
import Derived.WideLaws
import Derived.Deep.DeepCutAuto
import Derived.Deep.CutBlock
import Derived.Deep.RegionHeld3
import Derived.Laws.Rows
import Derived.Lib.AppendStr
import Derived.ArgAppend
import Derived.Laws.IdiomCopy
import Derived.OrdersHeld
import Derived.Laws.BitsLemmas
import Derived.Shelf.Abstract
import Derived.RowKit
import Derived.Lib.Hide
import Derived.Outline
import Derived.Test.YteflgifmdojahaaVFnCauchyA
namespace Go.Proofs.Yteflgifmdojahaa.PFnCauchy
open Go.RowKit Go.Proofs.YteflgifmdojahaaW.PrintWords Go.Proofs.YteflgifmdojahaaW.PrintLast Go.Proofs.YteflgifmdojahaaW.PrintMore Go.Proofs.Yteflgifmdojahaa.KitS
attribute [local go_sem] max2_int min2_int max_two min_two max_three min_three max_four min_four
set_option linter.unusedVariables false
set_option linter.unusedSimpArgs false
def errW : Option Int→Value
  | none=>.nilIface
  | some c=>.iface 0 (.int .i64 c)
theorem errW_none : errW none = .nilIface:=rfl
theorem errW_some (c : Int) : errW (some c) = .iface 0 (.int .i64 c):=rfl

theorem info3 : (Try.prog.info? 3).map (fun i=>(i.zero,i.size,i.bytes))=some (some (.int .i64 0),1,8):=by kernel_rfl
theorem info5 : (Try.prog.info? 5).map (fun i=>(i.zero,i.size,i.bytes))=some (some (.int .u8 0),1,1):=by kernel_rfl
theorem info24 : (Try.prog.info? 24).map (fun i=>(i.zero,i.size,i.bytes))=some (some (.slice none 0 0),1,24):=by kernel_rfl
def rd_L1 (xs : List (List Int)) (i : Int) : (List Int):=xs.getD i.toNat ([] : List Int)
theorem at_L1 {w : World} {A : Option Addr} {n : Nat} {xs : List (List Int)} (h : Kd.C (Kd.slice 5 (Kd.int .u8)) w A n xs) (i : Int) (h0 : 0≤i) (h1 : i < n) : ∃ ad A0 c0,A=some ad∧w.cell? (ad.add i.toNat)=some (.slice A0 (rd_L1 xs i).length c0)∧(rd_L1 xs i).length≤c0∧(Kd.int .u8).C w A0 (rd_L1 xs i).length (rd_L1 xs i):=by
  obtain ⟨ad,c,e,_,hK,hc0⟩:=Kd.C_get h ([] : List Int) i h0 h1
  have hc : ∀ j u,c[j]? = some u→w.cell? (ad.add (i.toNat*1+j))=some u:=hc0
  obtain ⟨A0,c0,rfl,l0,g0⟩:=hK
  exact ⟨ad,A0,c0,e,by have hq:=hc 0 _ rfl;rwa [Nat.mul_one,Nat.add_zero] at hq,l0,g0⟩

/-- A function's value with more rounds: the steps of the proof. -/
theorem mm {p : Prop} (h : p:=by repeat' first | (with_reducible exact ih0 ..) | (with_reducible exact ih1 ..) | (with_reducible exact ih2 ..) | (with_reducible exact ih3 ..) | (with_reducible exact ih4 ..) | (with_reducible exact ih5 ..) | (with_reducible exact ih6 ..) | (with_reducible exact ih7 ..) | (with_reducible exact LeO.refl _) | (with_reducible exact LeO.none _) | (with_reducible refine LeO.ite ?_ ?_) | (with_reducible refine LeO.bind ?_ (fun _=>?_)) | (with_reducible exact impl_Cauchy.mono ..) | (with_reducible exact impl_Inverse.mono ..) | (with_reducible exact impl_PartOf.mono ..) | (with_reducible exact impl_Times.mono ..) | (with_reducible exact impl_Vandermonde.mono ..) | (with_reducible exact impl_added.mono ..) | (with_reducible exact impl_cauchy.mono ..) | (with_reducible exact impl_identity.mono ..) | (with_reducible exact impl_isIncreasing.mono ..) | (with_reducible exact impl_power.mono ..) | (with_reducible exact impl_scaled.mono ..) | (with_reducible exact impl_vanRows.mono ..) | (with_reducible exact laws_FnCauchy.mono ..) | (with_reducible exact laws_numberOf.mono ..) | (with_reducible exact laws_sameMatrices.mono ..) | (with_reducible exact laws_someOf.mono ..) | (with_reducible exact spec_Cauchy.mono ..) | (with_reducible exact spec_DrawPartOf.mono ..) | (with_reducible exact spec_GoodMatrix.mono ..) | (with_reducible exact spec_PartOf.mono ..) | (with_reducible exact spec_Vandermonde.mono ..) | (with_reducible exact spec_l1Cur_chosen.mono ..) | (with_reducible exact spec_l1Cur_matrix.mono ..) | (with_reducible exact spec_l1Cur_vector.mono ..) | (with_reducible exact spec_l1Inverse.mono ..) | (with_reducible exact spec_l1Power.mono ..) | (with_reducible exact spec_l1Some.mono ..) | (with_reducible exact spec_l1Times.mono ..) | (with_reducible exact spec_l2Blank.mono ..) | (with_reducible exact spec_l2Cauchy.mono ..) | (with_reducible exact spec_l2Part.mono ..) | (with_reducible exact spec_l2Vandermonde.mono ..) | exact ih0 .. | exact ih1 .. | exact ih2 .. | exact ih3 .. | exact ih4 .. | exact ih5 .. | exact ih6 .. | exact ih7 .. | exact LeO.none _ | refine LeO.ite ?_ ?_ | refine LeO.bind ?_ (fun _=>?_)) : p:=h
abbrev Y : Bool:=true
abbrev Z : Bool:=false
theorem q1 {α : Type _} (l : List α) (i : Nat) (a : α) : l.toArray.setIfInBounds i a=(l.set i a).toArray:=List.setIfInBounds_toArray ..
theorem q2 {α : Type _} {x : α} {xs : List α} {a : α} : (x :: xs).set 0 a=a :: xs:=rfl
theorem q3 {α : Type _} {x : α} {xs : List α} {i : Nat} {a : α} : (x :: xs).set (i+1) a=x :: xs.set i a:=rfl
theorem am {p : Prop} (h : p) : Aside0 p := Aside0.mk h
theorem pb {B : Nat} {w W : World} (h : Below B w W) (n : Nat) : Below B w (W.drewN n) := pw_below_drewN h n
theorem pd {base : Nat} {w W : World} (h : Below base w W) : Below base w W.drew := below_drew1 h
theorem pa {w W : World} (h : Below w.heap.size w W) (o : Obj) : Below w.heap.size w (W.alloc o) := below_alloc h o
theorem pt {w W : World} {g j : Nat} {v : Value} (h : Below w.heap.size w W) (hg : w.heap.size ≤ g) : Below w.heap.size w (W.setCell ⟨g, j, none⟩ v) := below_set h hg
theorem pz {w W : World} (h : Below w.heap.size w W) : w.heap.size ≤ W.heap.size := below_size h
theorem pu {w W w2 : World} (h : Below w.heap.size w W) (k : Below W.heap.size W w2) : Below w.heap.size w w2 := below_step h k
theorem qn {w : World} {g : Nat} {o : Obj} (h : w.heap[g]? = some o) (n : Nat) : (w.drewN n).heap[g]? = some o := blk_drewN h n
theorem qa {w : World} {g : Nat} {o : Obj} (h : w.heap[g]? = some o) (o' : Obj) : (w.alloc o').heap[g]? = some o := blk_alloc h o'
theorem qd {w : World} {g : Nat} {o : Obj} (h : w.heap[g]? = some o) : w.drew.heap[g]? = some o := blk_drew h
theorem qb {w w1 : World} {g : Nat} {o : Obj} (h : w.heap[g]? = some o) (hb : Below w.heap.size w w1) : w1.heap[g]? = some o := blk_below h hb
theorem hh {a b c : Sort _} {p : a → b → c → Prop} (x : a) (y : b) (z : c) (h : p x y z) : p x y z := h
theorem q4 {α β : Type _} {f : α → β} {l : List α} : l.toArray.map f = (l.map f).toArray := List.map_toArray ..
theorem q5 {α β : Type _} {f : α → β} {a : α} {l : List α} : (a :: l).map f = f a :: l.map f := rfl
theorem q6 {α β : Type _} {f : α → β} : ([] : List α).map f = [] := rfl
theorem q7 {α : Type _} {i : Nat} {l : List α} : (l.drop i).length = l.length - i := List.length_drop ..
theorem q8 {α : Type _} {i : Nat} {l : List α} : (l.take i).length = min i l.length := List.length_take ..
theorem od {p : Prop} [Decidable p] (e : decide p = true) : p := of_decide_eq_true e
section
variable {P : Program} {md : Region.Mode} {ops : Array Oper} {Q : Exit → Act → World → Prop} {S : World → Prop} {ds : List Nat} {T : Bool × List (List Nat × List Nat)} {B : List Nat}
/-- What has come up, the last first. -/
def lst (n : Nat) : List Nat → Array Bool
  | [] => Array.replicate n false
  | i :: s => (lst n s).setIfInBounds i true
def lsl (n : Nat) : List Nat → List Bool
  | [] => List.replicate n false
  | i :: s => (lsl n s).set i true
theorem lst_l (n : Nat) : ∀ s, (lst n s).toList = lsl n s
  | [] => by simp [lst, lsl]
  | i :: s => by simp [lst, lsl, lst_l n s]
/-- What comes next, in this order. -/
def Todo (r : List (Nat × Nat)) (p : Prop) : Prop := p
theorem rS {id n : Nat} {a : Act} {w : World} (r : List (Nat × Nat)) (hn : ops.size = n) (hm : P.follows .mixedOrders = true) (hT : rtab .any ops = T) (hB : waitsOk T.2 B = true) (hS : S w.drew)
    (h : S w.drew → Aside0 (rtab .any ops = T) → Aside0 (waitsOk T.2 B = true) → Todo r (wpAnyLast P .any ops Q S ds n (lst n []) a w.drew)) : (Code.region id ops true).wp P Q a w :=
  start_ (Array.replicate n false) hm hn rfl hS fun h1 => h h1 ⟨hT⟩ ⟨hB⟩
theorem waits0 (T : List (List Nat × List Nat)) : waitsOk T [] = true := by
  unfold waitsOk
  rw [List.all_eq_true]
  intro d hd
  have hl : d < T.length := by simpa using hd
  rw [List.getElem?_eq_getElem hl]
  simp
/-- A small region none of whose operations stores: the table is the operations' own. -/
theorem rS0 {id n : Nat} {a : Act} {w : World} (r : List (Nat × Nat)) (hn : ops.size = n) (hm : P.follows .mixedOrders = true) (hS : S w.drew)
    (h : S w.drew → Aside0 (rtab .any ops = rtab .any ops) → Aside0 (waitsOk (rtab .any ops).2 [] = true) → Todo r (wpAnyLast P .any ops Q S ds n (lst n []) a w.drew)) : (Code.region id ops true).wp P Q a w :=
  rS r hn hm rfl (waits0 _) hS h
theorem rP {i u : Nat} {oi : Oper} {v : Value} {fuel n : Nat} {s : List Nat} {r : List (Nat × Nat)} {a : Act} {w : World} (hT : Aside0 (rtab md ops = T)) (hi : ops[i]? = some oi) (hN : oi.dst = some u) (hc : anyT T (lsl n s) ((lsl n s).set i true) i = true)
    (hQ : ∀ c a w, Q (.panic c) (a.put oi.dst v) w → Q (.panic c) a w) (hy : Yields P ops oi v a) {a' : Act} (ha : a.put (some u) v = a') (h : Todo r (wpAnyLast P md ops Q S ds fuel (lst n (i :: s)) a' w)) :
    Todo ((i, u) :: r) (wpAnyLast P md ops Q S ds (fuel + 1) (lst n s) a w) :=
  pure_ (lst n (i :: s)) hi hN (any_of hT.out (by rw [lst_l, lst_l]; exact hc)) hQ hy ha h
theorem rT {i u : Nat} {oi : Oper} {v : Value} {fuel n : Nat} {s : List Nat} {r : List (Nat × Nat)} {a : Act} {w : World} (hT : Aside0 (rtab md ops = T)) (hB : Aside0 (waitsOk T.2 B = true)) (hS : S w) (hi : ops[i]? = some oi) (hN : oi.dst = some u) (hc : takeW T B ds (lsl n s) ((lsl n s).set i true) i = true)
    (hQ : ∀ c a w, Q (.panic c) (a.put oi.dst v) w → Q (.panic c) a w) (hy : YieldsIf P ops S oi v a) {a' : Act} (ha : a.put (some u) v = a') (h : Todo r (wpAnyLast P md ops Q S ds fuel (lst n (i :: s)) a' w)) :
    Todo ((i, u) :: r) (wpAnyLast P md ops Q S ds (fuel + 1) (lst n s) a w) :=
  take_ (lst n (i :: s)) hi hN (take_ofW hT.out hB.out (by rw [lst_l, lst_l]; exact hc)) hQ hy hS ha h
theorem rO {i u : Nat} {N : Option Tmp} {oi : Oper} {fuel n : Nat} {s : List Nat} {r : List (Nat × Nat)} {a : Act} {w : World} (hT : Aside0 (rtab md ops = T)) (hi : ops[i]? = some oi) (hN : oi.dst = N) (hc : (readyT T.2 (lsl n s) == [i]) = true) (hd : i ∉ ds)
    (h : ∀ K : Act → World → Prop, Shut (∀ a' w', S w' → (S w' → Todo r (wpAnyLast P md ops Q S ds fuel (lst n (i :: s)) a' w')) → K a' w') → if Region.wanted oi (yielded ops a.tmps) = true then Oper.wp P oi a w K Q else K (a.put N undef) w) :
    Todo ((i, u) :: r) (wpAnyLast P md ops Q S ds (fuel + 1) (lst n s) a w) :=
  one_ (lst n (i :: s)) hi hN (one_of hT.out (by rw [lst_l, lst_l, hc]; show (true && ((lsl n s).set i true == (lsl n s).set i true)) = true; simp)) hd h
theorem rL {i u : Nat} {N : Option Tmp} {oi : Oper} {fuel n : Nat} {s : List Nat} {r : List (Nat × Nat)} {a : Act} {w : World} (hT : Aside0 (rtab md ops = T)) (hi : ops[i]? = some oi) (hN : oi.dst = N) (hc : (readyT T.2 (lsl n s) == [i]) = true) (hd : i ∈ ds)
    (h : ∀ K : Act → World → Prop, Shut (∀ a' w', Todo r (wpAnyLast P md ops Q S ds fuel (lst n (i :: s)) a' w') → K a' w') → if Region.wanted oi (yielded ops a.tmps) = true then Oper.wp P oi a w K Q else K (a.put N undef) w) :
    Todo ((i, u) :: r) (wpAnyLast P md ops Q S ds (fuel + 1) (lst n s) a w) :=
  last_ (lst n (i :: s)) hi hN (one_of hT.out (by rw [lst_l, lst_l, hc]; show (true && ((lsl n s).set i true == (lsl n s).set i true)) = true; simp)) hd h
theorem rD {s : List Nat} {a : Act} {w : World} {k n : Nat} (hT : Aside0 (rtab md ops = T)) (hc : (readyT T.2 (lsl n s) == []) = true) (h : Q .normal a w) : Todo [] (wpAnyLast P md ops Q S ds k (lst n s) a w) :=
  done_ (done_of hT.out (by rw [lst_l]; exact hc)) h
theorem rN {r : List (Nat × Nat)} {fuel : Nat} {l : Array Bool} {a a' : Act} {w : World} (ha : a = a') (h : Todo r (wpAnyLast P md ops Q S ds fuel l a' w)) : Todo r (wpAnyLast P md ops Q S ds fuel l a w) := norm_ ha h
end
/-- All steps that only yield. -/
theorem rR {p q : Prop} (hq : q) (h : q → p := by
  intro hq_
  repeat first
    | (refine rP HT_ rfl rfl (by kernel_rfl) hh (Or.inl ⟨by rfl, by intro w'; go_simp; with_reducible rfl⟩) (by simp only [Act.put, q1, q2, q3, i64_w, i32_w]; rfl) ?_)
    | (refine rP (v := undef) HT_ rfl rfl (by kernel_rfl) hh (Or.inr ⟨by rfl, rfl⟩) (by simp only [Act.put, q1, q2, q3, i64_w, i32_w]; rfl) ?_)
    | (refine rT HT_ HW_ hHeld rfl rfl (by kernel_rfl) hh (Or.inl ⟨by rfl, by intro w' hs; (repeat (have s_ := hs.1; replace hs := hs.2)); go_simp; with_reducible rfl⟩) (by simp only [Act.put, q1, q2, q3, i64_w, i32_w]; rfl) ?_)
  exact hq_) : p := h hq
theorem d0 {p : Prop} (h : p := by repeat (first|(with_reducible first|exact HK.out|apply KeepBut.set_|apply keep_drewN|apply keep_drew|apply keep_alloc)|exact HK.out)) : p := h
theorem d1 {p : Prop} (h : p := by first|(with_reducible assumption)|assumption) : p := h
theorem d2 {p : Prop} (h : p := by first|rfl|(simp [errW_none,errW_some] <;> rfl)|(simp [*,errW_none,errW_some] <;> rfl)) : p := h
theorem d3 {p : Prop} (h : p := by first|rfl|(simp;done)|(simp [*];done)) : p := h
theorem d4 {p : Prop} (h : p := by repeat (first|(with_reducible first|exact HI0.out|apply IsS127.alloc|apply IsS127.drewN|apply IsS127.drew|apply IsS127.set_1|apply IsS127.set_2)|exact HI0.out)) : p := h
theorem d5 {p : Prop} (h : p := by repeat (first|(with_reducible first|exact HK.out|apply KeepBut.set_|apply keep_drewN|apply keep_drew|apply keep_alloc|refine keep_far ?_ GW133.out _|refine keep_far ?_ GW134.out _)|exact HK.out)) : p := h
theorem d6 {p : Prop} (h : p := by repeat (first|(with_reducible first|exact HB.out|apply pa|apply pb|apply pd|refine pt ?_ (IsS127.ge HI0.out))|exact HB.out)) : p := h
theorem d7 {p : Prop} (h : p := by repeat (first|(with_reducible first|exact HI0.out|apply IsS127.alloc|apply IsS127.drewN|apply IsS127.drew|apply IsS127.set_1|apply IsS127.set_2|refine IsS127.far ?_ NB0_133.out _|refine IsS127.far ?_ NB0_134.out _)|exact HI0.out)) : p := h
theorem d8 {p : Prop} (h : p := by repeat (first|(with_reducible first|exact HB.out|apply pa|apply pb|apply pd|refine pt ?_ (IsS127.ge HI0.out)|refine pt ?_ GE133.out|refine pt ?_ GE134.out)|exact HB.out)) : p := h
theorem d9 {p : Prop} (h : p := by decide) : p := h
theorem d10 {p : Prop} (h : p := by repeat (first|exact Drawn0.refl _|apply Drawn0.step)) : p := h
theorem d11 {p : Prop} (h : p := by first|exact Kd.S_nil _ _ _ _ _|exact Kd.N_nil _ _ _ _ _|exact Kd.V_nil _ _ _ _ _|exact Kd.Q_nil _ _ _ _ _|exact Kd.R_nil _ _ _ _ _) : p := h
theorem d12 {p : Prop} (h : p := by kernel_rfl) : p := h
theorem d13 {p : Prop} (h : p := by omega) : p := h
theorem d14 {p : Prop} (h : p := by repeat (first|(with_reducible first|exact HK.out|apply KeepBut.set_|apply keep_drewN|apply keep_drew|apply keep_alloc|refine keep_far ?_ GW142.out _)|exact HK.out)) : p := h
theorem d15 {p : Prop} (h : p := by repeat (first|(with_reducible first|exact HK.out|apply KeepBut.set_|apply keep_drewN|apply keep_drew|apply keep_alloc|refine keep_far ?_ GW142.out _|refine keep_far ?_ GW154.out _)|exact HK.out)) : p := h
theorem d24 {p : Prop} (h : p := by refine sS ?_;exact (Kd.S_mono (Kd.S_far (p:=⟨gb342,0,none⟩) (Kd.S_types HO325.out BK342.out d9) (fun _ hk=>hk.2) (.slice Ao28 t338.length co28)) (fun _ h_=>h_.1))) : p := h
theorem d16 {p : Prop} (h : p := by refine (Kd.S_reads' (e:=24) (base:=w.heap.size) (ok:=fun k_=>(((True∧some k_ ≠ (.slice Ao17 t328.length co17:Value).ownBlock)∧some k_ ≠ (.slice Ao22 t333.length co22:Value).ownBlock)∧some k_ ≠ (.slice Ao28 t338.length co28:Value).ownBlock)) (n:=t323.length) (c:=co13) ?_).2.2;exact d24) : p := h
theorem d23 {p : Prop} (h : p := by refine sS ?_;exact (Kd.S_mono (Kd.S_far (p:=⟨gb342,0,none⟩) (Kd.S_types HO330.out BK342.out d9) (fun _ hk=>hk.2) (.slice Ao28 t338.length co28)) (fun _ h_=>h_.1))) : p := h
theorem d17 {p : Prop} (h : p := by refine (Kd.S_reads' (e:=24) (base:=w.heap.size) (ok:=fun k_=>(((True∧some k_ ≠ (.slice Ao13 t323.length co13:Value).ownBlock)∧some k_ ≠ (.slice Ao22 t333.length co22:Value).ownBlock)∧some k_ ≠ (.slice Ao28 t338.length co28:Value).ownBlock)) (n:=t328.length) (c:=co17) ?_).2.2;exact d23) : p := h
theorem d18 {p : Prop} (h : p := by (try simp only [q4,q5,q6]);first|done|rfl|(simp only [q7,q8];rfl)) : p := h
theorem d19 {p : Prop} (h : p := by rw [← hq_];exact (yW HB)) : p := h
theorem d20 {p : Prop} (h : p := by rfl) : p := h
theorem d21 {p : Prop} (h : p := by repeat (first|(with_reducible exact HR352.out)|(with_reducible refine Kd.C_alloc ?_ _)|(with_reducible refine Kd.C_drewN ?_ _)|(with_reducible refine Kd.C_drew ?_)|exact HR352.out)) : p := h
theorem d22 {p : Prop} (h : p := by have:=HK1.out;omega) : p := h
theorem d25 {p : Prop} (h : p := by exact (fun _ _=>trivial)) : p := h
theorem d26 {p : Prop} (h : p := by (try simp only [q4,q5,q6]);first|done|rfl|(go_simp;done)|(simp only [q7,q8];rfl)) : p := h
theorem d27 {p : Prop} (h : p := by refine sB ?_;refine blk_put (cs:=#[.slice none 0 0]) ?_ 0 _ rfl;exact yB BK313) : p := h
theorem d28 {p : Prop} (h : p := by first|(go_simp;done)|(go_simp;rfl)) : p := h
theorem d29 {p : Prop} (h : p := by first|exact Kd.R_nil _ _ _ _ _|exact Kd.N_nil _ _ _ _ _|exact Kd.V_nil _ _ _ _ _|exact Kd.Q_nil _ _ _ _ _|exact Kd.S_nil _ _ _ _ _) : p := h
theorem d30 {p : Prop} (h : p := by repeat (first|(with_reducible exact HR359.out)|(with_reducible refine Kd.C_alloc ?_ _)|(with_reducible refine Kd.C_drewN ?_ _)|(with_reducible refine Kd.C_drew ?_)|exact HR359.out)) : p := h
theorem d31 {p : Prop} (h : p := by refine sS ?_;exact (Kd.S_mono (Kd.S_far (p:=⟨gb386,0,none⟩) (Kd.S_types HO374.out BK386.out d9) (fun _ hk=>hk.2) (.slice Ao186 t382.length co186)) (fun _ h_=>h_.1))) : p := h
theorem d32 {p : Prop} (h : p := by refine sS ?_;exact (Kd.S_mono (Kd.S_far (p:=⟨gb386,0,none⟩) (Kd.S_types HO374.out BK386.out d9) (fun _ hk=>hk.2) (.slice Ao154 t382.length co154)) (fun _ h_=>h_.1))) : p := h
theorem d33 {p : Prop} (h : p := by refine sS ?_;exact (Kd.S_mono (Kd.S_far (p:=⟨gb381,0,none⟩) (Kd.S_types HO374.out BK381.out d9) (fun _ hk=>hk.2) (.slice Ao176 t372.length co176)) (fun _ h_=>h_.1))) : p := h
theorem d34 {p : Prop} (h : p := by refine sS ?_;exact (Kd.S_mono (Kd.S_far (p:=⟨gb381,0,none⟩) (Kd.S_types HO374.out BK381.out d9) (fun _ hk=>hk.2) (.slice Ao144 t372.length co144)) (fun _ h_=>h_.1))) : p := h
theorem d35 {p : Prop} (h : p := by refine sS ?_;exact (Kd.S_mono (Kd.S_far (p:=⟨gb364,0,none⟩) (Kd.S_types HO362.out BK364.out d9) (fun _ hk=>hk.2) (.slice Ao95 t360.length co95)) (fun _ h_=>h_.1))) : p := h
theorem d36 {p : Prop} (h : p := by refine sS ?_;exact (Kd.S_mono (Kd.S_far (p:=⟨gb342,0,none⟩) (Kd.S_types HO340.out BK342.out d9) (fun _ hk=>hk.2) (.slice Ao28 t338.length co28)) (fun _ h_=>h_.1))) : p := h
theorem d37 {p : Prop} (h : p := by refine sS ?_;exact (Kd.S_mono (Kd.S_far (p:=⟨gb342,0,none⟩) (Kd.S_types HO335.out BK342.out d9) (fun _ hk=>hk.2) (.slice Ao28 t338.length co28)) (fun _ h_=>h_.1))) : p := h
theorem d38 {p : Prop} (h : p := by repeat (first|(with_reducible first|exact HK.out|apply KeepBut.set_|apply keep_drewN|apply keep_drew|apply keep_alloc|refine keep_far ?_ GW133.out _)|exact HK.out)) : p := h
theorem d39 {p : Prop} (h : p := by first|omega|exact Nat.le_refl _) : p := h
theorem d40 {p : Prop} (h : p := by exact (pz (yW HB))) : p := h
theorem d41 {p : Prop} (h : p := by simp) : p := h
theorem d42 {p : Prop} (h : p := by refine sS ?_;exact Kd.S_mono (Kd.S_far (p:=⟨gb369,0,none⟩) (Kd.S_types HO_343000.out BK369.out d9) (fun _ hk=>hk.2) (.slice Ao103 t365.length co103)) (fun _ hk=>⟨hk.1.1.1.1,⟨hk.1.1.1.2.1,⟨hk.1.1.1.2.2,⟨hk.1.1.2,hk.1.2⟩⟩⟩⟩)) : p := h
theorem d43 {p : Prop} (h : p := by refine sS ?_;exact Kd.S_mono (Kd.S_far (p:=⟨gb369,0,none⟩) (Kd.S_types HO_338000.out BK369.out d9) (fun _ hk=>hk.2) (.slice Ao103 t365.length co103)) (fun _ hk=>⟨hk.1.1.1.1,⟨hk.1.1.1.2.1,⟨hk.1.1.1.2.2,⟨hk.1.1.2,hk.1.2⟩⟩⟩⟩)) : p := h
theorem d44 {p : Prop} (h : p := by refine sS ?_;exact Kd.S_mono (Kd.S_far (p:=⟨gb369,0,none⟩) (Kd.S_types HO_333000.out BK369.out d9) (fun _ hk=>hk.2) (.slice Ao103 t365.length co103)) (fun _ hk=>⟨hk.1.1.1.1,⟨hk.1.1.1.2.1,⟨hk.1.1.1.2.2,⟨hk.1.1.2,hk.1.2⟩⟩⟩⟩)) : p := h
theorem d45 {p : Prop} (h : p := by refine sS ?_;exact Kd.S_mono (Kd.S_far (p:=⟨gb369,0,none⟩) (Kd.S_types HO_328000.out BK369.out d9) (fun _ hk=>hk.2) (.slice Ao103 t365.length co103)) (fun _ hk=>⟨hk.1.1.1.1,⟨hk.1.1.1.2.1,⟨hk.1.1.1.2.2,⟨hk.1.1.2,hk.1.2⟩⟩⟩⟩)) : p := h
theorem d46 {p : Prop} (h : p := by refine sS ?_;exact Kd.S_mono (Kd.S_far (p:=⟨gb369,0,none⟩) (Kd.S_types HO367.out BK369.out d9) (fun _ hk=>hk.2) (.slice Ao103 t365.length co103)) (fun _ hk=>⟨hk.1.1.1.1.1.2,⟨hk.1.1.1.1.2,⟨hk.1.1.1.2,⟨hk.1.1.2,hk.1.2⟩⟩⟩⟩)) : p := h
theorem d47 {p : Prop} (h : p := by refine sS ?_;exact Kd.S_mono (Kd.S_far (p:=⟨gb369,0,none⟩) (Kd.S_types HO362.out BK369.out d9) (fun _ hk=>hk.2) (.slice Ao103 t365.length co103)) (fun _ hk=>⟨hk.1.1.1.1.1.2,⟨hk.1.1.1.1.2,⟨hk.1.1.1.2,⟨hk.1.1.2,hk.1.2⟩⟩⟩⟩)) : p := h
theorem d48 {p : Prop} (h : p := by refine sB ?_;refine blk_put (cs:=#[.slice none 0 0]) ?_ 0 _ rfl;exact yB BK342) : p := h
theorem d49 {p : Prop} (h : p := by first|(rw [add_block];exact Kd.own_blk (IsS127.own_neS HI0.out HO151.out d9))|(show (Addr.add _ _).block ≠ _;rw [add_block];exact Kd.own_blk (IsS127.own_neS HI0.out HO151.out d9))|exact Kd.own_blk (IsS127.own_neS HI0.out HO151.out d9)) : p := h
theorem d50 {p : Prop} (h : p := by rw [← hq_];exact (yB BK313)) : p := h
theorem d51 {p : Prop} (h : p := by rw [← hq_];exact (yB BK312)) : p := h
theorem d52 {p : Prop} (h : p := by have:=HK1.out;have:=HK2.out;omega) : p := h
theorem d53 {p : Prop} (h : p := by first|(rw [add_block];exact (fun e_=>((HL157_0.out.1 _ e_.symm).2) rfl))|(show some (Addr.add _ _).block ≠ _;rw [add_block];exact (fun e_=>((HL157_0.out.1 _ e_.symm).2) rfl))|exact (fun e_=>((HL157_0.out.1 _ e_.symm).2) rfl)) : p := h
theorem d54 {p : Prop} (h : p := by exact (Reps.none _ _)) : p := h
theorem d55 {p : Prop} (h : p := by exact (yW HB)) : p := h
theorem d56 {p : Prop} (h : p := by refine sS ?_;exact (Kd.S_mono (Kd.S_far (p:=⟨gb386,0,none⟩) (Kd.S_types HO_343000.out BK386.out d9) (fun _ hk=>hk.2) (.slice Ao186 t382.length co186)) (fun _ h_=>h_.1))) : p := h
theorem d57 {p : Prop} (h : p := by refine sS ?_;exact (Kd.S_mono (Kd.S_far (p:=⟨gb386,0,none⟩) (Kd.S_types HO_343000.out BK386.out d9) (fun _ hk=>hk.2) (.slice Ao154 t382.length co154)) (fun _ h_=>h_.1))) : p := h
theorem d58 {p : Prop} (h : p := by refine sS ?_;exact (Kd.S_mono (Kd.S_far (p:=⟨gb386,0,none⟩) (Kd.S_types HO_338000.out BK386.out d9) (fun _ hk=>hk.2) (.slice Ao186 t382.length co186)) (fun _ h_=>h_.1))) : p := h
theorem d59 {p : Prop} (h : p := by refine sS ?_;exact (Kd.S_mono (Kd.S_far (p:=⟨gb386,0,none⟩) (Kd.S_types HO_338000.out BK386.out d9) (fun _ hk=>hk.2) (.slice Ao154 t382.length co154)) (fun _ h_=>h_.1))) : p := h
theorem d60 {p : Prop} (h : p := by refine sS ?_;exact (Kd.S_mono (Kd.S_far (p:=⟨gb386,0,none⟩) (Kd.S_types HO_333000.out BK386.out d9) (fun _ hk=>hk.2) (.slice Ao186 t382.length co186)) (fun _ h_=>h_.1))) : p := h
theorem d61 {p : Prop} (h : p := by refine sS ?_;exact (Kd.S_mono (Kd.S_far (p:=⟨gb386,0,none⟩) (Kd.S_types HO_333000.out BK386.out d9) (fun _ hk=>hk.2) (.slice Ao154 t382.length co154)) (fun _ h_=>h_.1))) : p := h
theorem d62 {p : Prop} (h : p := by refine sS ?_;exact (Kd.S_mono (Kd.S_far (p:=⟨gb386,0,none⟩) (Kd.S_types HO_328000.out BK386.out d9) (fun _ hk=>hk.2) (.slice Ao186 t382.length co186)) (fun _ h_=>h_.1))) : p := h
theorem d63 {p : Prop} (h : p := by refine sS ?_;exact (Kd.S_mono (Kd.S_far (p:=⟨gb386,0,none⟩) (Kd.S_types HO_328000.out BK386.out d9) (fun _ hk=>hk.2) (.slice Ao154 t382.length co154)) (fun _ h_=>h_.1))) : p := h
theorem d64 {p : Prop} (h : p := by refine sS ?_;exact (Kd.S_mono (Kd.S_far (p:=⟨gb381,0,none⟩) (Kd.S_types HO_343000.out BK381.out d9) (fun _ hk=>hk.2) (.slice Ao176 t372.length co176)) (fun _ h_=>h_.1))) : p := h
theorem d65 {p : Prop} (h : p := by refine sS ?_;exact (Kd.S_mono (Kd.S_far (p:=⟨gb381,0,none⟩) (Kd.S_types HO_343000.out BK381.out d9) (fun _ hk=>hk.2) (.slice Ao144 t372.length co144)) (fun _ h_=>h_.1))) : p := h
theorem d66 {p : Prop} (h : p := by refine sS ?_;exact (Kd.S_mono (Kd.S_far (p:=⟨gb381,0,none⟩) (Kd.S_types HO_338000.out BK381.out d9) (fun _ hk=>hk.2) (.slice Ao176 t372.length co176)) (fun _ h_=>h_.1))) : p := h
theorem d67 {p : Prop} (h : p := by refine sS ?_;exact (Kd.S_mono (Kd.S_far (p:=⟨gb381,0,none⟩) (Kd.S_types HO_338000.out BK381.out d9) (fun _ hk=>hk.2) (.slice Ao144 t372.length co144)) (fun _ h_=>h_.1))) : p := h
theorem d68 {p : Prop} (h : p := by refine sS ?_;exact (Kd.S_mono (Kd.S_far (p:=⟨gb381,0,none⟩) (Kd.S_types HO_333000.out BK381.out d9) (fun _ hk=>hk.2) (.slice Ao176 t372.length co176)) (fun _ h_=>h_.1))) : p := h
theorem d69 {p : Prop} (h : p := by refine sS ?_;exact (Kd.S_mono (Kd.S_far (p:=⟨gb381,0,none⟩) (Kd.S_types HO_333000.out BK381.out d9) (fun _ hk=>hk.2) (.slice Ao144 t372.length co144)) (fun _ h_=>h_.1))) : p := h
theorem d70 {p : Prop} (h : p := by refine sS ?_;exact (Kd.S_mono (Kd.S_far (p:=⟨gb381,0,none⟩) (Kd.S_types HO_328000.out BK381.out d9) (fun _ hk=>hk.2) (.slice Ao176 t372.length co176)) (fun _ h_=>h_.1))) : p := h
theorem d71 {p : Prop} (h : p := by refine sS ?_;exact (Kd.S_mono (Kd.S_far (p:=⟨gb381,0,none⟩) (Kd.S_types HO_328000.out BK381.out d9) (fun _ hk=>hk.2) (.slice Ao144 t372.length co144)) (fun _ h_=>h_.1))) : p := h
theorem d72 {p : Prop} (h : p := by refine sS ?_;exact (Kd.S_mono (Kd.S_far (p:=⟨gb364,0,none⟩) (Kd.S_types HO_343000.out BK364.out d9) (fun _ hk=>hk.2) (.slice Ao95 t360.length co95)) (fun _ h_=>h_.1))) : p := h
theorem d73 {p : Prop} (h : p := by refine sS ?_;exact (Kd.S_mono (Kd.S_far (p:=⟨gb364,0,none⟩) (Kd.S_types HO_338000.out BK364.out d9) (fun _ hk=>hk.2) (.slice Ao95 t360.length co95)) (fun _ h_=>h_.1))) : p := h
theorem d74 {p : Prop} (h : p := by refine sS ?_;exact (Kd.S_mono (Kd.S_far (p:=⟨gb364,0,none⟩) (Kd.S_types HO_333000.out BK364.out d9) (fun _ hk=>hk.2) (.slice Ao95 t360.length co95)) (fun _ h_=>h_.1))) : p := h
theorem d75 {p : Prop} (h : p := by refine sS ?_;exact (Kd.S_mono (Kd.S_far (p:=⟨gb364,0,none⟩) (Kd.S_types HO_328000.out BK364.out d9) (fun _ hk=>hk.2) (.slice Ao95 t360.length co95)) (fun _ h_=>h_.1))) : p := h
theorem d76 {p : Prop} (h : p := by refine sS ?_;exact (Kd.S_mono (Kd.S_far (p:=⟨gb391,0,none⟩) (Kd.S_types HO389.out BK391.out d9) (fun _ hk=>hk.2) (.slice Ao164 t387.length co164)) (fun _ h_=>h_.1))) : p := h
theorem d77 {p : Prop} (h : p := by refine sS ?_;exact (Kd.S_mono (Kd.S_far (p:=⟨gb391,0,none⟩) (Kd.S_types HO384.out BK391.out d9) (fun _ hk=>hk.2) (.slice Ao164 t387.length co164)) (fun _ h_=>h_.1))) : p := h
theorem d78 {p : Prop} (h : p := by refine sS ?_;exact (Kd.S_mono (Kd.S_far (p:=⟨gb386,0,none⟩) (Kd.S_types HO384.out BK386.out d9) (fun _ hk=>hk.2) (.slice Ao186 t382.length co186)) (fun _ h_=>h_.1))) : p := h
theorem d79 {p : Prop} (h : p := by refine sS ?_;exact (Kd.S_mono (Kd.S_far (p:=⟨gb386,0,none⟩) (Kd.S_types HO384.out BK386.out d9) (fun _ hk=>hk.2) (.slice Ao154 t382.length co154)) (fun _ h_=>h_.1))) : p := h
theorem d80 {p : Prop} (h : p := by refine sR ?_;exact (Kd.R_mono (Kd.R_far (p:=⟨gb386,0,none⟩) (Kd.R_types HO380.out BK386.out d9) (fun _ hk=>hk.2) (.slice Ao186 t382.length co186)) (fun _ h_=>h_.1))) : p := h
theorem d81 {p : Prop} (h : p := by refine sR ?_;exact (Kd.R_mono (Kd.R_far (p:=⟨gb386,0,none⟩) (Kd.R_types HO380.out BK386.out d9) (fun _ hk=>hk.2) (.slice Ao154 t382.length co154)) (fun _ h_=>h_.1))) : p := h
theorem d82 {p : Prop} (h : p := by refine sR ?_;exact (Kd.R_mono (Kd.R_far (p:=⟨gb386,0,none⟩) (Kd.R_types HO377.out BK386.out d9) (fun _ hk=>hk.2) (.slice Ao186 t382.length co186)) (fun _ h_=>h_.1))) : p := h
theorem d83 {p : Prop} (h : p := by refine sR ?_;exact (Kd.R_mono (Kd.R_far (p:=⟨gb386,0,none⟩) (Kd.R_types HO377.out BK386.out d9) (fun _ hk=>hk.2) (.slice Ao154 t382.length co154)) (fun _ h_=>h_.1))) : p := h
theorem d84 {p : Prop} (h : p := by refine sR ?_;exact (Kd.R_mono (Kd.R_far (p:=⟨gb381,0,none⟩) (Kd.R_types HO380.out BK381.out d9) (fun _ hk=>hk.2) (.slice Ao176 t372.length co176)) (fun _ h_=>h_.1))) : p := h
theorem d85 {p : Prop} (h : p := by refine sR ?_;exact (Kd.R_mono (Kd.R_far (p:=⟨gb381,0,none⟩) (Kd.R_types HO380.out BK381.out d9) (fun _ hk=>hk.2) (.slice Ao144 t372.length co144)) (fun _ h_=>h_.1))) : p := h
theorem d86 {p : Prop} (h : p := by refine sR ?_;exact (Kd.R_mono (Kd.R_far (p:=⟨gb381,0,none⟩) (Kd.R_types HO377.out BK381.out d9) (fun _ hk=>hk.2) (.slice Ao176 t372.length co176)) (fun _ h_=>h_.1))) : p := h
theorem d87 {p : Prop} (h : p := by refine sR ?_;exact (Kd.R_mono (Kd.R_far (p:=⟨gb381,0,none⟩) (Kd.R_types HO377.out BK381.out d9) (fun _ hk=>hk.2) (.slice Ao144 t372.length co144)) (fun _ h_=>h_.1))) : p := h
theorem d88 {p : Prop} (h : p := by refine sS ?_;exact (Kd.S_mono (Kd.S_far (p:=⟨gb337,0,none⟩) (Kd.S_types HO335.out BK337.out d9) (fun _ hk=>hk.2) (.slice Ao22 t333.length co22)) (fun _ h_=>h_.1))) : p := h
theorem d89 {p : Prop} (h : p := by refine sS ?_;exact (Kd.S_mono (Kd.S_far (p:=⟨gb337,0,none⟩) (Kd.S_types HO330.out BK337.out d9) (fun _ hk=>hk.2) (.slice Ao22 t333.length co22)) (fun _ h_=>h_.1))) : p := h
theorem d90 {p : Prop} (h : p := by refine sS ?_;exact (Kd.S_mono (Kd.S_far (p:=⟨gb337,0,none⟩) (Kd.S_types HO325.out BK337.out d9) (fun _ hk=>hk.2) (.slice Ao22 t333.length co22)) (fun _ h_=>h_.1))) : p := h
theorem d91 {p : Prop} (h : p := by refine sS ?_;exact (Kd.S_mono (Kd.S_far (p:=⟨gb332,0,none⟩) (Kd.S_types HO330.out BK332.out d9) (fun _ hk=>hk.2) (.slice Ao17 t328.length co17)) (fun _ h_=>h_.1))) : p := h
theorem d92 {p : Prop} (h : p := by refine sS ?_;exact (Kd.S_mono (Kd.S_far (p:=⟨gb332,0,none⟩) (Kd.S_types HO325.out BK332.out d9) (fun _ hk=>hk.2) (.slice Ao17 t328.length co17)) (fun _ h_=>h_.1))) : p := h
theorem d93 {p : Prop} (h : p := by refine sS ?_;exact (Kd.S_mono (Kd.S_far (p:=⟨gb327,0,none⟩) (Kd.S_types HO325.out BK327.out d9) (fun _ hk=>hk.2) (.slice Ao13 t323.length co13)) (fun _ h_=>h_.1))) : p := h
theorem d94 {p : Prop} (h : p := by refine sS ?_;exact Kd.S_mono HO340.out (fun _ hk=>⟨hk.1.1.2,⟨hk.1.2,hk.2⟩⟩)) : p := h
theorem d95 {p : Prop} (h : p := by refine sS ?_;exact Kd.S_mono HO335.out (fun _ hk=>⟨hk.1.1.2,⟨hk.1.2,hk.2⟩⟩)) : p := h
theorem d96 {p : Prop} (h : p := by refine sS ?_;exact Kd.S_mono HO330.out (fun _ hk=>⟨hk.1.1.2,⟨hk.1.2,hk.2⟩⟩)) : p := h
theorem d97 {p : Prop} (h : p := by refine sS ?_;exact Kd.S_mono HO325.out (fun _ hk=>⟨hk.1.1.2,⟨hk.1.2,hk.2⟩⟩)) : p := h
theorem d98 {p : Prop} (h : p := by refine sB ?_;refine blk_put (cs:=#[.slice none 0 0]) ?_ 0 _ rfl;exact yB BK253) : p := h
theorem d99 {p : Prop} (h : p := by refine sB ?_;refine blk_put (cs:=#[.slice none 0 0]) ?_ 0 _ rfl;exact yB BK187) : p := h
theorem d100 {p : Prop} (h : p := by refine sB ?_;refine blk_put (cs:=#[.slice none 0 0]) ?_ 0 _ rfl;exact yB BK170) : p := h
theorem d101 {p : Prop} (h : p := by refine sB ?_;refine blk_put (cs:=#[.slice none 0 0]) ?_ 0 _ rfl;exact yB BK133) : p := h
theorem d102 {p : Prop} (h : p := by have:=HN.out;omega) : p := h
theorem d103 {p : Prop} (h : p := by have:=HK1.out;first|omega|exact Nat.le_refl _) : p := h
theorem d104 {p : Prop} (h : p := by exact rfl) : p := h
theorem d105 {p : Prop} (h : p := by rw [← hq_];exact (yB BK187)) : p := h
theorem d106 {p : Prop} (h : p := by rw [← hq_];exact (yB BK170)) : p := h
set_option maxHeartbeats 8000000
set_option maxRecDepth 100000
def impl_Times.l0:Nat→Int→Int→Int→Int→Option (Int)
 | 0,_,_,_,_=>none
 | k+1,x1,x5,x6,x7=>if x6 < 8 then (if 0≤x6 then (if (Go.bits .and .u8 (shr .u8 x1 x6) 1)=1 then (if (wrap64 (x7*2)) > 255 then (impl_Times.l0 k x1 (Go.bits .xor .i64 x5 x7) (wrap64 (x6+1)) (Go.bits .xor .i64 (wrap64 (x7*2)) 283)) else (impl_Times.l0 k x1 (Go.bits .xor .i64 x5 x7) (wrap64 (x6+1)) (wrap64 (x7*2)))) else (if (wrap64 (x7*2)) > 255 then (impl_Times.l0 k x1 x5 (wrap64 (x6+1)) (Go.bits .xor .i64 (wrap64 (x7*2)) 283)) else (impl_Times.l0 k x1 x5 (wrap64 (x6+1)) (wrap64 (x7*2))))) else (none)) else (some ((x5) % 256))
def impl_Times.f (k:Nat) (a0:Int) (a1:Int):Option (Int):=impl_Times.l0 k a1 0 0 (wrap64 (a0))
theorem impl_Times.mono_l:∀ k,(∀ y0 y1 y2 y3,LeO (impl_Times.l0 k y0 y1 y2 y3) (impl_Times.l0 (k+1) y0 y1 y2 y3))
 | 0=>fun _ _ _ _ r h=>by simp [impl_Times.l0] at h
 | k+1=>by
  have ih0:=impl_Times.mono_l k
  intro y0 y1 y2 y3
  unfold impl_Times.l0
  exact mm
theorem impl_Times.mono:∀ a0 a1 k,LeO (impl_Times.f k a0 a1) (impl_Times.f (k+1) a0 a1):=by
 intro a0 a1 k
 have ih0:=impl_Times.mono_l k
 unfold impl_Times.f
 exact mm
theorem impl_Times.calls (k:Nat) (a0:Int) (a1:Int) (r:Int) (w:World) (h:impl_Times.f k a0 a1=some r) :
  Calls Try.prog 51 #[.int .u8 a0, .int .u8 a1] w fun e w'=>e = .returned (.int .u8 r)∧Drawn0 w w':=by
 have H:=h
 unfold impl_Times.f at H
 clear h
 have H':=am H
 clear H
 go_enter Try.func51,Try.ntmps51
 go_wp2
 go_loopg [5,6,7] k (fun kq v5 v6 v7 w'=>∃ (x5_1:Int) (x6_1:Int) (x7_1:Int),v5 = .int .i64 x5_1∧v6 = .int .i64 x6_1∧v7 = .int .i64 x7_1∧Aside0 (impl_Times.l0 kq a1 x5_1 x6_1 x7_1=some r)∧Aside0 (kq≤k)∧Drawn0 w w')
 case atStart=>exact ⟨(0),(0),(wrap64 (a0)),d3,d3,d3,H',⟨Nat.le_refl _⟩,d10⟩
 case round =>
  clear H'
  try clear p2
  obtain ⟨x5_1,x6_1,x7_1,rfl,rfl,rfl,HA,HK1,⟨m1,rfl⟩⟩:=hrel
  cases gk with
  | zero=>exact absurd HA.out (by simp [impl_Times.l0])
  | succ k1 =>
   have H:=HA.out
   clear HA
   simp only [impl_Times.l0] at H
   by_cases c3:x6_1 < 8
   ·rw [if_pos c3] at H
    have c3b0:=decide_eq_true c3
    clear c3
    obtain ⟨c4,H⟩:=yi H
    have c4b0:=eq_true c4
    have c4b1:decide (0≤x6_1)=true:=decide_eq_true c4
    clear c4
    generalize hji5:(shr .u8 a1 x6_1)=ji5 at H
    have hji5_:(a1 / 2 ^ min x6_1.toNat 8)=ji5:=hji5
    have hji5z:x6_1≤8→(a1 / 2 ^ x6_1.toNat)=ji5:=shr_small hji5
    by_cases c6:(Go.bits .and .u8 (ji5) 1)=1
    ·rw [if_pos c6] at H
     have c6b0:((Go.bits .and .u8 (ji5) 1) == 1)=true:=beq_iff_eq.mpr c6
     have c6b1:((Go.bits .and .u8 (ji5) 1) != 1)=false:=bne_eq_false_iff_eq.mpr c6
     clear c6
     by_cases c7:(wrap64 (x7_1*2)) > 255
     ·rw [if_pos c7] at H
      have c7b0:decide (255 < (wrap64 (x7_1*2)))=true:=decide_eq_true c7
      clear c7
      have H':=am H
      clear H
      go_wp2
      go_roundg k1
      case measure=>have:=HK1.out;omega
      case rel=>exact ⟨(Go.bits .xor .i64 x5_1 x7_1),(wrap64 (x6_1+1)),(Go.bits .xor .i64 (wrap64 (x7_1*2)) 283),d3,d3,d3,H',⟨d22⟩,d10⟩
     rw [if_neg c7] at H
     have c7b0:decide (255 < (wrap64 (x7_1*2)))=false:=decide_eq_false c7
     clear c7
     have H':=am H
     clear H
     go_wp2
     go_roundg k1
     case measure=>have:=HK1.out;omega
     case rel=>exact ⟨(Go.bits .xor .i64 x5_1 x7_1),(wrap64 (x6_1+1)),(wrap64 (x7_1*2)),d3,d3,d3,H',⟨d22⟩,d10⟩
    rw [if_neg c6] at H
    have c6b0:((Go.bits .and .u8 (ji5) 1) == 1)=false:=beq_eq_false_iff_ne.mpr c6
    have c6b1:((Go.bits .and .u8 (ji5) 1) != 1)=true:=bne_iff_ne.mpr c6
    by_cases c8:(wrap64 (x7_1*2)) > 255
    ·rw [if_pos c8] at H
     have c8b0:decide (255 < (wrap64 (x7_1*2)))=true:=decide_eq_true c8
     clear c8
     have H':=am H
     clear H
     go_wp2
     go_roundg k1
     case measure=>have:=HK1.out;omega
     case rel=>exact ⟨(x5_1),(wrap64 (x6_1+1)),(Go.bits .xor .i64 (wrap64 (x7_1*2)) 283),d3,d3,d3,H',⟨d22⟩,d10⟩
    rw [if_neg c8] at H
    have c8b0:decide (255 < (wrap64 (x7_1*2)))=false:=decide_eq_false c8
    clear c8
    have H':=am H
    clear H
    go_wp2
    go_roundg k1
    case measure=>have:=HK1.out;omega
    case rel=>exact ⟨(x5_1),(wrap64 (x6_1+1)),(wrap64 (x7_1*2)),d3,d3,d3,H',⟨d22⟩,d10⟩
   rw [if_neg c3] at H
   have c3b0:=decide_eq_false c3
   clear c3
   obtain rfl:=Option.some.inj H
   go_wp2
   go_ret
   exact ⟨d3,d10⟩

def impl_power.l0:Nat→Int→Int→Int→Option (Int)
 | 0,_,_,_=>none
 | k+1,x0,x1,x5=>if x1 > 0 then (if (Go.bits .and .i64 x1 1)=1 then ((impl_Times.f k x5 x0).bind fun t101=>((impl_Times.f k x0 x0).bind fun t102=>(impl_power.l0 k t102 (x1 / 2) t101))) else ((impl_Times.f k x0 x0).bind fun t103=>(impl_power.l0 k t103 (x1 / 2) x5))) else (some x5)
def impl_power.f (k:Nat) (a0:Int) (a1:Int):Option (Int):=impl_power.l0 k a0 a1 1
theorem impl_power.mono_l:∀ k,(∀ y0 y1 y2,LeO (impl_power.l0 k y0 y1 y2) (impl_power.l0 (k+1) y0 y1 y2))
 | 0=>fun _ _ _ r h=>by simp [impl_power.l0] at h
 | k+1=>by
  have ih0:=impl_power.mono_l k
  intro y0 y1 y2
  unfold impl_power.l0
  exact mm
theorem impl_power.mono:∀ a0 a1 k,LeO (impl_power.f k a0 a1) (impl_power.f (k+1) a0 a1):=by
 intro a0 a1 k
 have ih0:=impl_power.mono_l k
 unfold impl_power.f
 exact mm
theorem impl_power.calls (k:Nat) (a0:Int) (a1:Int) (r:Int) (w:World) (h:impl_power.f k a0 a1=some r) :
  Calls Try.prog 88 #[.int .u8 a0, .int .i64 a1] w fun e w'=>e = .returned (.int .u8 r)∧Drawn0 w w':=by
 have H:=h
 unfold impl_power.f at H
 clear h
 have H':=am H
 clear H
 go_enter Try.func88,Try.ntmps88
 go_wp2
 go_loopg [0,1,5] k (fun kq v0 v1 v5 w'=>∃ (x0_1:Int) (x1_1:Int) (x5_1:Int),v0 = .int .u8 x0_1∧v1 = .int .i64 x1_1∧v5 = .int .u8 x5_1∧Aside0 (impl_power.l0 kq x0_1 x1_1 x5_1=some r)∧Aside0 (kq≤k)∧Drawn0 w w')
 case atStart=>exact ⟨(a0),(a1),(1),d3,d3,d3,H',⟨Nat.le_refl _⟩,d10⟩
 case round =>
  clear H'
  try clear p2
  obtain ⟨x0_1,x1_1,x5_1,rfl,rfl,rfl,HA,HK1,⟨m1,rfl⟩⟩:=hrel
  cases gk with
  | zero=>exact absurd HA.out (by simp [impl_power.l0])
  | succ k1 =>
   have H:=HA.out
   clear HA
   simp only [impl_power.l0] at H
   by_cases c3:x1_1 > 0
   ·rw [if_pos c3] at H
    have c3b0:decide (0 < x1_1)=true:=decide_eq_true c3
    clear c3
    by_cases c4:(Go.bits .and .i64 x1_1 1)=1
    ·rw [if_pos c4] at H
     have c4b0:((Go.bits .and .i64 x1_1 1) == 1)=true:=beq_iff_eq.mpr c4
     have c4b1:((Go.bits .and .i64 x1_1 1) != 1)=false:=bne_eq_false_iff_eq.mpr c4
     clear c4
     obtain ⟨t101,A5,H⟩:=yo H
     obtain ⟨t102,A6,H⟩:=yo H
     have H':=am H
     clear H
     go_wp2_with (first|((with_reducible refine gC 51 ?_);refine gM (some 15) Try.func51 (args:=#[.int .u8 x5_1, .int .u8 x0_1]) (impl_Times.calls k1 x5_1 x0_1 t101 _ A5.out) ?_;rintro e w' ⟨rfl,⟨nd,rfl⟩⟩;refine ⟨_,rfl,?_⟩)|((with_reducible refine gC 51 ?_);refine gM (some 18) Try.func51 (args:=#[.int .u8 x0_1, .int .u8 x0_1]) (impl_Times.calls k1 x0_1 x0_1 t102 _ A6.out) ?_;rintro e w' ⟨rfl,⟨nd,rfl⟩⟩;refine ⟨_,rfl,?_⟩))
     go_roundg k1
     case measure=>have:=HK1.out;omega
     case rel=>exact ⟨(t102),(x1_1 / 2),(t101),d3,d3,d3,H',⟨d22⟩,d10⟩
    rw [if_neg c4] at H
    have c4b0:((Go.bits .and .i64 x1_1 1) == 1)=false:=beq_eq_false_iff_ne.mpr c4
    have c4b1:((Go.bits .and .i64 x1_1 1) != 1)=true:=bne_iff_ne.mpr c4
    obtain ⟨t103,A7,H⟩:=yo H
    have H':=am H
    clear H
    go_wp2_with (first|((with_reducible refine gC 51 ?_);refine gM (some 18) Try.func51 (args:=#[.int .u8 x0_1, .int .u8 x0_1]) (impl_Times.calls k1 x0_1 x0_1 t103 _ A7.out) ?_;rintro e w' ⟨rfl,⟨nd,rfl⟩⟩;refine ⟨_,rfl,?_⟩))
    go_roundg k1
    case measure=>have:=HK1.out;omega
    case rel=>exact ⟨(t103),(x1_1 / 2),(x5_1),d3,d3,d3,H',⟨d22⟩,d10⟩
   rw [if_neg c3] at H
   have c3b0:decide (0 < x1_1)=false:=decide_eq_false c3
   clear c3
   obtain rfl:=Option.some.inj H
   go_wp2
   go_ret
   exact ⟨d3,d10⟩

def impl_identity.l0:Nat→Int→List (List Int)→Int→Int→Option ((List (List Int)))
 | 0,_,_,_,_=>none
 | k+1,x0,x3,x7,x8=>if x8 < x7 then (if 0≤x0 then (if (x0:Int).toNat≤281474976710656 then ((some (List.replicate (x0:Int).toNat 0:List Int)).bind fun y107=>(if 0≤x8 then (if x8 < (y107.length:Int) then (if x3.length < 5864062014805 then (impl_identity.l0 k x0 (x3 ++ [(y107.set (x8:Int).toNat 1)]) x7 (wrap64 (x8+1))) else (none)) else (none)) else (none))) else (none)) else (none)) else (some x3)
def impl_identity.f (k:Nat) (a0:Int):Option ((List (List Int))):=impl_identity.l0 k a0 (([]:List (List Int))) a0 0
theorem impl_identity.mono_l:∀ k,(∀ y0 y1 y2 y3,LeO (impl_identity.l0 k y0 y1 y2 y3) (impl_identity.l0 (k+1) y0 y1 y2 y3))
 | 0=>fun _ _ _ _ r h=>by simp [impl_identity.l0] at h
 | k+1=>by
  have ih0:=impl_identity.mono_l k
  intro y0 y1 y2 y3
  unfold impl_identity.l0
  exact mm
theorem impl_identity.mono:∀ a0 k,LeO (impl_identity.f k a0) (impl_identity.f (k+1) a0):=by
 intro a0 k
 have ih0:=impl_identity.mono_l k
 unfold impl_identity.f
 exact mm
theorem impl_identity.calls (k:Nat) (a0:Int) (r:List (List Int)) (w:World) (h:impl_identity.f k a0=some r) :
  Calls Try.prog 141 #[.int .i64 a0] w fun e w'=>∃ v0_:Value,e = .returned (v0_)∧Kd.S (Kd.slice 5 (Kd.int .u8)) 24 w' w.heap.size (fun _=>True) v0_ r∧Below w.heap.size w w':=by
 have HB:=am (Below.refl w.heap.size w)
 have H:=h
 unfold impl_identity.f at H
 clear h
 generalize hy104:(([]:List (List Int)):List (List Int))=y104 at H
 have Ny104:=am hy104.symm
 clear hy104
 have H':=am H
 clear H
 go_enter Try.func141,Try.ntmps141
 go_wp2_with (first|((with_reducible refine gD 6 ?_);refine Kd.S_lit (Kd.slice 5 (Kd.int .u8)) _ 24 d20 (N:=6) d20 (xs:=([]:List (List Int))) (inner:=[]) (ok:=fun _=>True) (okp:=fun _=>True) d28 d54 (fun _ hk=>hk) trivial (Below.refl _ _) (Nat.le_refl _) d41 ?_;intro v105 w2 ho3 hb hg_ hnew_;clear hg_ hnew_;(first|rw [← Ny104.out] at ho3|(simp only [Int.reduceToNat] at ho3;rw [← Ny104.out] at ho3));have HO106:=am (Kd.S_lower ho3 (pz (yW HB)));replace HB:=yH HB hb;clear hb ho3))
 go_loopg [3,8] k (fun kq v3 v8 w'=>∃ (x3_1:List (List Int)) (x8_1:Int),v8 = .int .i64 x8_1∧Aside0 (impl_identity.l0 kq a0 x3_1 a0 x8_1=some r)∧Aside0 (kq≤k)∧Aside0 (Kd.S (Kd.slice 5 (Kd.int .u8)) 24 w' w.heap.size (fun _=>True) v3 x3_1)∧Aside0 (Below w.heap.size w w'))
 case atStart=>exact ⟨(y104),(0),d3,H',⟨Nat.le_refl _⟩,⟨yS HO106⟩,⟨yW HB⟩⟩
 case round =>
  clear H'
  try clear c1
  try clear p2
  obtain ⟨x3_1,x8_1,rfl,HA,HK1,HO_3,HB⟩:=hrel
  cases gk with
  | zero=>exact absurd HA.out (by simp [impl_identity.l0])
  | succ k1 =>
   have H:=HA.out
   clear HA
   simp only [impl_identity.l0] at H
   by_cases c4:x8_1 < a0
   ·rw [if_pos c4] at H
    have c4b0:=decide_eq_true c4
    clear c4
    obtain ⟨c5,H⟩:=yi H
    have c5b0:=eq_true c5
    have c5b1:decide (0≤a0)=true:=decide_eq_true c5
    clear c5
    obtain ⟨c6,H⟩:=yi H
    have c6b0:=eq_true c6
    have c6b1:decide ((a0:Int).toNat≤281474976710656)=true:=decide_eq_true c6
    clear c6
    obtain ⟨y107,hy107,H⟩:=ys H
    have Ny107:=am hy107
    clear hy107
    obtain ⟨c7,H⟩:=yi H
    have c7b0:=decide_eq_true c7
    clear c7
    obtain ⟨c8,H⟩:=yi H
    have c8b0:=decide_eq_true c8
    clear c8
    generalize hy110:(y107.set (x8_1:Int).toNat 1:List Int)=y110 at H
    have Ny110:=am hy110.symm
    clear hy110
    obtain ⟨c10,H⟩:=yi H
    have LMc10:=am c10
    clear c10
    generalize hy111:(x3_1 ++ [y110]:List (List Int))=y111 at H
    have Ny111:=am hy111.symm
    clear hy111
    have H':=am H
    clear H
    go_wp2_with (first|((with_reducible refine gD 12 ?_);refine Kd.R_make (Kd.int .u8) _ 5 rfl (N:=12) rfl 24 _ _ rfl a0 rfl rfl Try.underlying24 (.int .u8 0) 1 info5 rfl d9 d13 0 (ok:=fun _=>True) (okp:=fun _=>True) rfl (fun _ hk=>hk) trivial (od d1) (Nat.le_trans (Nat.mul_le_mul_right _ (od d1:a0.toNat≤281474976710656)) d13) (Below.refl _ _) (Nat.le_refl _) ?_;intro v108 w11 ho12 hb hg_ hnew_;clear hg_ hnew_;(first|rw [← Ny107.out] at ho12|(simp only [Int.reduceToNat] at ho12;rw [← Ny107.out] at ho12));replace HO_3:=eS HO_3 (Kd.R_base ho12) hb;have HO109:=am (Kd.R_lower ho12 (pz (yW HB)));replace HB:=yH HB hb;clear hb ho12;have p9:0≤(x8_1:Int):=od d1;have q9:(x8_1:Int) < ((y107.length:Int):Int):=od d1;obtain ⟨go9,co9,eo9,gb9,gl9,cl9,HG9⟩:=Kd.R_form HO109.out d13;(first|cases eo9|(injection eo9 with ea_ en_ ec_;(first|subst ea_|(injection ea_ with ea_;subst ea_));subst ec_;clear en_));have GB9:=am gb9;have GG9:=am HG9;clear gb9 gl9 HG9;obtain ⟨hx9_0,hf9_0⟩:=Kd.R_celln 0 HO109.out (x8_1:Int) p9 q9;replace p9:=eq_true p9;replace q9:=eq_true q9;obtain ⟨hy13_,hz13_⟩:=Kd.R_celln 0 HO109.out (x8_1:Int) (od d1) (od d1);have HP13:=Kd.R_putg HO109.out (x8_1:Int) 1)|((with_reducible refine gate_store (t:=5) (p:=15) rfl ?_);refine store_event (t:=5) (p:=15) (v:=?vo_w14) (w1:=(w11.setCell ⟨go9,(x8_1:Int).toNat,none⟩ (.int .u8 1))) ?hg ?ho ?hn ?hr ?_;(case ho=>rfl);(case hg=>rfl);(case hn=>rfl);(case hr=>first|(go_simp;done)|(go_simp;rfl));intro w14 hw;have hg:w11.grownBy w14 (some go9):=(by rw [hw];exact HP13.2);have hp_:Kd.R (Kd.int .u8) 5 w14 w.heap.size (fun _=>True) (.slice (some ⟨go9,0,none⟩) y107.length co9) y110:=(by rw [hw,Ny110.out];exact HP13.1);clear HP13;replace HO_3:=am (Kd.S_after (v:=(.slice (some ⟨go9,0,none⟩) y107.length co9)) (v1:=(.slice (some ⟨go9,0,none⟩) y107.length co9)) (ok:=(fun _=>True)) (yS HO_3) hg (.inl rfl));replace HO109:=am (hp_);replace HB:=am ((by rw [hw];exact pt (HB.out) GB9.out:Below w.heap.size w w14));clear hg hw hp_)|((with_reducible refine gate_builtin (b:=.append) (xs:=#[.tmp 16, .tmp 18]) rfl ?_);at_builtin;refine Kd.S_append (Kd.slice 5 (Kd.int .u8)) (w0:=w) w.heap.size rfl (.tmp 16) (.tmp 18) 25 24 (.slice none 0 0) 24 rfl Try.underlying25 info24 rfl d9 d13 u3 x3_1 y110 [.slice (some ⟨go9,0,none⟩) y107.length co9] (fun _=>True) (fun k_=>some k_=(.slice (some ⟨go9,0,none⟩) y107.length co9:Value).ownBlock) rfl rfl (by exact Kd.M_row (Kd.R_mono (Kd.R_tight rfl (Kd.R_mono (ok':=fun k_=>((fun _=>True)) k_∧some k_ ≠ (u3:Value).ownBlock) (Kd.R_apart' (HO109.out) (Kd.S_typed HO_3.out) d9) (fun k_ hk=>⟨trivial,hk.2⟩))) (fun _ h_=>h_))) (fun k_ hk_=>((Kd.R_mono (ok':=fun k_=>((fun _=>True)) k_∧some k_ ≠ (u3:Value).ownBlock) (Kd.R_apart' (HO109.out) (Kd.S_typed HO_3.out) d9) (fun k_ hk=>⟨trivial,hk.2⟩))).1 k_ hk_.symm) d25 (by exact (by refine sS ?_;exact Kd.S_mono HO_3.out (fun k_ hk=>⟨trivial,fun e_=>hk.2 e_⟩))) d55 d40 (by have:=LMc10.out;omega) ?_;intro v112 w15 ho hb hg hat;rw [← Ny111.out] at ho;have n0_:=am (hb);have n1_:=am (ho);clear HB HO_3 HO109;have HB:=n0_;have HO113:=n1_;clear n0_ n1_ ho hb hg hat))
    go_roundg k1
    case measure=>have:=HK1.out;omega
    case rel=>exact ⟨(y111),(wrap64 (x8_1+1)),d3,H',⟨d22⟩,⟨yS HO113⟩,⟨yW HB⟩⟩
   rw [if_neg c4] at H
   have c4b0:=decide_eq_false c4
   clear c4
   obtain rfl:=Option.some.inj H
   go_wp2
   go_ret
   exact ⟨_,d2,yS HO_3,yW HB⟩

theorem fl_info5:(Try.prog.info? 5).map (fun i=>(i.zero,i.size,i.bytes))=some (some (.int .u8 0),1,1):=by kernel_rfl
theorem fl_info32:(Try.prog.info? 24).map (fun i=>(i.zero,i.size,i.bytes))=some (some (.slice none 0 0),1,24):=by kernel_rfl

mutual
def impl_filled.l0 (E:Nat→Int→Int→Option Int):Nat→Int→List (List Int)→Int→Int→Option ((List (List Int)))
 | 0,_,_,_,_=>none
 | k+1,x1,x7,x12,x13=>if x13 < x12 then (impl_filled.l1 E k x1 x7 x13 (([]:List Int)) x12 x13 x1 0) else (some x7)
def impl_filled.l1 (E:Nat→Int→Int→Option Int):Nat→Int→List (List Int)→Int→List Int→Int→Int→Int→Int→Option ((List (List Int)))
 | 0,_,_,_,_,_,_,_,_=>none
 | k+1,x1,x7,x8,x9,x12,x13,x17,x18=>if x18 < x17 then ((E k x8 x18).bind fun t149=>(if x9.length < 140737488355328 then (impl_filled.l1 E k x1 x7 x8 (x9 ++ [t149]) x12 x13 x17 (wrap64 (x18+1))) else (none))) else (if x7.length < 5864062014805 then (impl_filled.l0 E k x1 (x7 ++ [x9]) x12 (wrap64 (x13+1))) else (none))
end
def impl_filled.f (E:Nat→Int→Int→Option Int) (k:Nat) (a0:Int) (a1:Int):Option ((List (List Int))):=impl_filled.l0 E k a1 (([]:List (List Int))) a0 0
theorem impl_filled.mono_l (E:Nat→Int→Int→Option Int) (hE:∀ i j k,LeO (E k i j) (E (k+1) i j)):∀ k,(∀ y0 y1 y2 y3,LeO (impl_filled.l0 E k y0 y1 y2 y3) (impl_filled.l0 E (k+1) y0 y1 y2 y3))∧(∀ y0 y1 y2 y3 y4 y5 y6 y7,LeO (impl_filled.l1 E k y0 y1 y2 y3 y4 y5 y6 y7) (impl_filled.l1 E (k+1) y0 y1 y2 y3 y4 y5 y6 y7))
 | 0=>⟨fun _ _ _ _ r h=>by simp [impl_filled.l0] at h,fun _ _ _ _ _ _ _ _ r h=>by simp [impl_filled.l1] at h⟩
 | k+1=>by
  obtain ⟨ih0,ih1⟩:=impl_filled.mono_l E hE k
  refine ⟨?_,?_⟩
  ·intro y0 y1 y2 y3
   unfold impl_filled.l0
   repeat' first
   | (with_reducible exact ih0 _ _ _ _)
   | (with_reducible exact ih1 _ _ _ _ _ _ _ _)
   | (with_reducible exact hE _ _ _)
   |(with_reducible exact LeO.refl _)|(with_reducible exact LeO.none _)|(with_reducible refine LeO.ite ?_ ?_)|(with_reducible refine LeO.bind ?_ (fun _=>?_))|exact ih0 _ _ _ _|exact ih1 _ _ _ _ _ _ _ _|exact hE _ _ _|exact LeO.none _|refine LeO.ite ?_ ?_|refine LeO.bind ?_ (fun _=>?_)
  intro y0 y1 y2 y3 y4 y5 y6 y7
  unfold impl_filled.l1
  repeat' first
  | (with_reducible exact ih0 _ _ _ _)
  | (with_reducible exact ih1 _ _ _ _ _ _ _ _)
  | (with_reducible exact hE _ _ _)
  |(with_reducible exact LeO.refl _)|(with_reducible exact LeO.none _)|(with_reducible refine LeO.ite ?_ ?_)|(with_reducible refine LeO.bind ?_ (fun _=>?_))|exact ih0 _ _ _ _|exact ih1 _ _ _ _ _ _ _ _|exact hE _ _ _|exact LeO.none _|refine LeO.ite ?_ ?_|refine LeO.bind ?_ (fun _=>?_)
theorem impl_filled.mono (E:Nat→Int→Int→Option Int) (hE:∀ i j k,LeO (E k i j) (E (k+1) i j)):∀ a0 a1 k,LeO (impl_filled.f E k a0 a1) (impl_filled.f E (k+1) a0 a1):=by
 intro a0 a1 k
 obtain ⟨ih0,ih1⟩:=impl_filled.mono_l E hE k
 unfold impl_filled.f
 repeat' first
   | (with_reducible exact ih0 _ _ _ _)
   | (with_reducible exact ih1 _ _ _ _ _ _ _ _)
   | (with_reducible exact hE _ _ _)
   |(with_reducible exact LeO.refl _)|(with_reducible exact LeO.none _)|(with_reducible refine LeO.ite ?_ ?_)|(with_reducible refine LeO.bind ?_ (fun _=>?_))|exact ih0 _ _ _ _|exact ih1 _ _ _ _ _ _ _ _|exact hE _ _ _|exact LeO.none _|refine LeO.ite ?_ ?_|refine LeO.bind ?_ (fun _=>?_)
theorem impl_filled.calls (E:Nat→Int→Int→Option Int) (g:Nat) (eg:∀ args w,(callFunc g args).run Try.prog w = .ok (.enter g args) w) (lb:Array Value) (k:Nat) (a0:Int) (a1:Int) (r:List (List Int)) (w:World)
  (hE:∀ k i j t W,Below w.heap.size w W→E k i j=some t→Calls Try.prog g (#[.int .i64 i, .int .i64 j] ++ lb) W fun e w'=>e = .returned (.int .u8 t)∧Drawn0 W w') (h:impl_filled.f E k a0 a1=some r) :
  Calls Try.prog 86 #[.int .i64 a0, .int .i64 a1, .func (.func g) #[] lb] w fun e w'=>∃ v0_:Value,e = .returned (v0_)∧Kd.S (Kd.slice 5 (Kd.int .u8)) 24 w' w.heap.size (fun _=>True) v0_ r∧Below w.heap.size w w':=by
 have HX:=am hE
 clear hE
 have HB:=am (Below.refl w.heap.size w)
 have H:=h
 unfold impl_filled.f at H
 clear h
 generalize hy143:(([]:List (List Int)):List (List Int))=y143 at H
 have Ny143:=am hy143.symm
 clear hy143
 have H':=am H
 clear H
 go_enter Try.func86,Try.ntmps86
 go_wp2_with (first|((with_reducible refine gD 11 ?_);refine Kd.S_lit (Kd.slice 5 (Kd.int .u8)) _ 24 d20 (N:=11) d20 (xs:=([]:List (List Int))) (inner:=[]) (ok:=fun _=>True) (okp:=fun _=>True) d28 d54 (fun _ hk=>hk) trivial (Below.refl _ _) (Nat.le_refl _) d41 ?_;intro v144 w4 ho5 hb hg_ hnew_;clear hg_ hnew_;(first|rw [← Ny143.out] at ho5|(simp only [Int.reduceToNat] at ho5;rw [← Ny143.out] at ho5));have HO145:=am (Kd.S_lower ho5 (pz (yW HB)));replace HB:=yH HB hb;clear hb ho5))
 go_loopg [7,13] k (fun kq v7 v13 w'=>∃ (x7_1:List (List Int)) (x13_1:Int),v13 = .int .i64 x13_1∧Aside0 (impl_filled.l0 E kq a1 x7_1 a0 x13_1=some r)∧Aside0 (kq≤k)∧Aside0 (Kd.S (Kd.slice 5 (Kd.int .u8)) 24 w' w.heap.size (fun _=>True) v7 x7_1)∧Aside0 (Below w.heap.size w w'))
 case atStart=>exact ⟨(y143),(0),d3,H',⟨Nat.le_refl _⟩,⟨yS HO145⟩,⟨yW HB⟩⟩
 case round =>
  clear H'
  try clear p2
  obtain ⟨x7_1,x13_1,rfl,HA,HK1,HO_7,HB⟩:=hrel
  cases gk with
  | zero=>exact absurd HA.out (by simp [impl_filled.l0])
  | succ k1 =>
   have H:=HA.out
   clear HA
   simp only [impl_filled.l0] at H
   by_cases c6:x13_1 < a0
   ·rw [if_pos c6] at H
    have c6b0:=decide_eq_true c6
    clear c6
    generalize hy146:(([]:List Int):List Int)=y146 at H
    have Ny146:=am hy146.symm
    clear hy146
    have H':=am H
    clear H
    go_wp2_with (first|((with_reducible refine gD 16 ?_);refine Kd.R_lit (Kd.int .u8) _ 5 d20 (N:=16) d20 (xs:=([]:List Int)) (inner:=[]) (ok:=fun _=>True) (okp:=fun _=>True) d28 d54 (fun _ hk=>hk) trivial (Below.refl _ _) (Nat.le_refl _) d41 ?_;intro v147 w7 ho8 hb hg_ hnew_;clear hg_ hnew_;(first|rw [← Ny146.out] at ho8|(simp only [Int.reduceToNat] at ho8;rw [← Ny146.out] at ho8));replace HO_7:=eS HO_7 (Kd.R_base ho8) hb;have HO148:=am (Kd.R_lower ho8 (pz (yW HB)));replace HB:=yH HB hb;clear hb ho8))
    go_loopg [9,18] k1 (fun kq v9 v18 w'=>∃ (x9_2:List Int) (x18_2:Int),v18 = .int .i64 x18_2∧Aside0 (impl_filled.l1 E kq a1 x7_1 x13_1 x9_2 a0 x13_1 a1 x18_2=some r)∧Aside0 (kq≤k1)∧Aside0 (Kd.S (Kd.slice 5 (Kd.int .u8)) 24 w' w.heap.size (fun k_=>some k_ ≠ (v9:Value).ownBlock) u7 x7_1)∧Aside0 (Kd.R (Kd.int .u8) 5 w' w.heap.size (fun _=>True) v9 x9_2)∧Aside0 (Below w.heap.size w w'))
    case atStart=>exact ⟨(y146),(0),d3,H',⟨Nat.le_refl _⟩,⟨by refine sS ?_;exact Kd.S_mono HO_7.out (fun _ hk=>hk.2)⟩,⟨yR HO148⟩,⟨yW HB⟩⟩
    case round =>
     clear H'
     try clear p2
     try clear c6
     try clear c6b0
     try clear c8
     try clear p2
     obtain ⟨x9_2,x18_2,rfl,HA,HK2,HO_7,HO_9,HB⟩:=hrel
     cases gk with
     | zero=>exact absurd HA.out (by simp [impl_filled.l1])
     | succ k2 =>
      have H:=HA.out
      clear HA
      simp only [impl_filled.l1] at H
      by_cases c9:x18_2 < a1
      ·rw [if_pos c9] at H
       have c9b0:=decide_eq_true c9
       clear c9
       obtain ⟨t149,A10,H⟩:=yo H
       obtain ⟨c11,H⟩:=yi H
       have LMc11:=am c11
       clear c11
       generalize hy150:(x9_2 ++ [t149]:List Int)=y150 at H
       have Ny150:=am hy150.symm
       clear hy150
       have H':=am H
       clear H
       go_wp2_with (first|(go_at_fn g;refine (HX.out _ _ _ _ _ (by (repeat (first|(with_reducible first|exact HB.out|apply pa|apply pb|apply pd)|exact HB.out))) A10.out).mono ?_;rintro e w' ⟨rfl,⟨nd,rfl⟩⟩)|((with_reducible refine gate_builtin (b:=.append) (xs:=#[.tmp 21, .tmp 26]) rfl ?_);at_builtin;refine Kd.R_append (Kd.int .u8) (w0:=w) w.heap.size rfl (.tmp 21) (.tmp 26) 24 5 (.int .u8 0) 1 rfl Try.underlying24 fl_info5 rfl d9 d13 u9 x9_2 t149 [.int .u8 t149] (fun _=>True) (fun _=>False) rfl rfl d104 (fun _ hk=>hk.elim) d25 (by exact (yR HO_9)) d55 d40 (by have:=LMc11.out;omega) ?_;intro v151 w12 ho hb hg hat;rw [← Ny150.out] at ho;have n0_:=am (Kd.S_after (ok:=(fun _=>True)) (by refine sS ?_;exact Kd.S_mono HO_7.out (fun _ hk=>⟨trivial,hk⟩)) hg hat);have n1_:=am (hb);have n2_:=am (ho);clear HO_7 HB HO_9;have HO_7:=n0_;have HB:=n1_;have HO152:=n2_;clear n0_ n1_ n2_ ho hb hg hat))
       go_roundg k2
       case measure=>have:=HK1.out;have:=HK2.out;omega
       case rel=>exact ⟨(y150),(wrap64 (x18_2+1)),d3,H',⟨d52⟩,⟨by refine sS ?_;exact Kd.S_mono HO_7.out (fun _ hk=>hk.2)⟩,⟨yR HO152⟩,⟨yW HB⟩⟩
      rw [if_neg c9] at H
      have c9b0:=decide_eq_false c9
      clear c9
      obtain ⟨c13,H⟩:=yi H
      have LMc13:=am c13
      clear c13
      generalize hy153:(x7_1 ++ [x9_2]:List (List Int))=y153 at H
      have Ny153:=am hy153.symm
      clear hy153
      have H':=am H
      clear H
      obtain ⟨Ao15,co15,eo15⟩:=Kd.R_slice HO_9.out
      subst eo15
      go_wp2_with (first|((with_reducible refine gate_builtin (b:=.append) (xs:=#[.tmp 29, .tmp 31]) rfl ?_);at_builtin;refine Kd.S_append (Kd.slice 5 (Kd.int .u8)) (w0:=w) w.heap.size rfl (.tmp 29) (.tmp 31) 25 24 (.slice none 0 0) 24 rfl Try.underlying25 fl_info32 rfl d9 d13 u7 x7_1 x9_2 [.slice Ao15 x9_2.length co15] (fun _=>True) (fun k_=>some k_=(.slice Ao15 x9_2.length co15:Value).ownBlock) rfl rfl (by exact Kd.M_row (Kd.R_mono (Kd.R_tight rfl (Kd.R_mono (ok':=fun k_=>((fun _=>True)) k_∧some k_ ≠ (u7:Value).ownBlock) (Kd.R_apart' (HO_9.out) (Kd.S_typed HO_7.out) d9) (fun k_ hk=>⟨trivial,hk.2⟩))) (fun _ h_=>h_))) (fun k_ hk_=>((Kd.R_mono (ok':=fun k_=>((fun _=>True)) k_∧some k_ ≠ (u7:Value).ownBlock) (Kd.R_apart' (HO_9.out) (Kd.S_typed HO_7.out) d9) (fun k_ hk=>⟨trivial,hk.2⟩))).1 k_ hk_.symm) d25 (by exact (by refine sS ?_;exact Kd.S_mono HO_7.out (fun k_ hk=>⟨trivial,fun e_=>hk e_⟩))) d55 d40 (by have:=LMc13.out;omega) ?_;intro v154 w14 ho hb hg hat;rw [← Ny153.out] at ho;have n0_:=am (hb);have n1_:=am (ho);clear HB HO_7 HO_9;have HB:=n0_;have HO155:=n1_;clear n0_ n1_ ho hb hg hat))
      go_roundg k2
      case measure=>have:=HK1.out;have:=HK2.out;omega
      case rel=>exact ⟨(y153),(wrap64 (x13_1+1)),d3,H',⟨d52⟩,⟨yS HO155⟩,⟨yW HB⟩⟩
   rw [if_neg c6] at H
   have c6b0:=decide_eq_false c6
   clear c6
   obtain rfl:=Option.some.inj H
   go_wp2
   go_ret
   exact ⟨_,d2,yS HO_7,yW HB⟩

set_option maxHeartbeats 4000000 in
theorem impl_cauchy.inv_calls (k:Nat) (a t:Int) (W:World) (h:impl_power.f k a 254=some t) :
  Calls Try.prog 136 #[.int .u8 a] W fun e w'=>e = .returned (.int .u8 t)∧Drawn0 W w':=by
 have HX:=am h
 clear h
 go_enter Try.func136,Try.ntmps136
 go_wp2_with (go_at_call 88;(with_reducible refine (impl_power.calls k a 254 t _ HX.out).mono ?_);rintro e w' ⟨rfl,⟨q,rfl⟩⟩)
 go_ret
 exact ⟨rfl,⟨_,rfl⟩⟩
def impl_cauchy.E (c:Int) (k:Nat) (i j:Int):Option Int:=impl_power.f k ((Go.bits .xor .i64 (wrap64 (c+i)) j) % 256) 254
theorem impl_cauchy.mono_E (c:Int):∀ i j k,LeO (impl_cauchy.E c k i j) (impl_cauchy.E c (k+1) i j):=fun i j k=>impl_power.mono _ _ _
def impl_cauchy.f (k:Nat) (a0:Int) (a1:Int):Option ((List (List Int))):=impl_filled.f (impl_cauchy.E a1) k a0 a1
theorem impl_cauchy.mono:∀ a0 a1 k,LeO (impl_cauchy.f k a0 a1) (impl_cauchy.f (k+1) a0 a1):=fun a0 a1 k=>impl_filled.mono _ (impl_cauchy.mono_E a1) a0 a1 k
set_option maxHeartbeats 4000000 in
theorem impl_cauchy.elem (gb:Nat) (c:Int) (k:Nat) (i j t:Int) (W:World) (hbox:W.cell? ⟨gb,0,none⟩=some (.int .i64 c)) (h:impl_cauchy.E c k i j=some t) :
  Calls Try.prog 135 #[.int .i64 i, .int .i64 j, .pointer (some ⟨gb,0,none⟩)] W fun e w'=>e = .returned (.int .u8 t)∧Drawn0 W w':=by
 have HX:=am h
 clear h
 go_enter Try.func135,Try.ntmps135
 go_wp2_with fail
 refine (impl_cauchy.inv_calls k ((Go.bits .xor .i64 (wrap64 (c+i)) j) % 256) t _ HX.out).mono ?_
 rintro e w' ⟨rfl,⟨q,rfl⟩⟩
 go_wp2
 go_ret
 exact ⟨rfl,⟨_,rfl⟩⟩
set_option maxHeartbeats 4000000 in
theorem impl_cauchy.calls (k:Nat) (a0:Int) (a1:Int) (r:List (List Int)) (w:World) (h:impl_cauchy.f k a0 a1=some r) :
  Calls Try.prog 83 #[.int .i64 a0, .int .i64 a1] w fun e w'=>∃ v0_:Value,e = .returned (v0_)∧Kd.S (Kd.slice 5 (Kd.int .u8)) 24 w' w.heap.size (fun _=>True) v0_ r∧Below w.heap.size w w':=by
 go_enter Try.func83,Try.ntmps83
 go_wp2_with fail
 obtain ⟨W,hW⟩:∃ W:World,W=w.alloc (.cells #[.int .i64 a1] 3 (0,0)):=⟨_,rfl⟩
 have hb:Below w.heap.size w W:=by rw [hW];exact pa (Below.refl _ _) _
 have hc1:W.cell? ⟨w.heap.size,0,none⟩=some (.int .i64 a1):=by rw [hW];go_simp
 have hlt:w.heap.size < W.heap.size:=by rw [hW];simp
 rw [← hW]
 refine (impl_filled.calls (impl_cauchy.E a1) 135 (enters_of Try.func135 rfl rfl) #[.pointer (some ⟨w.heap.size,0,none⟩)] k a0 a1 r W (fun k i j t W' hb' hE=>impl_cauchy.elem w.heap.size a1 k i j t W' ((hb'.cell hlt).trans hc1) hE) h).mono ?_
 rintro e w' ⟨v,rfl,hS,hB⟩
 go_wp2
 go_ret
 exact ⟨_,rfl,Kd.S_lower hS (Nat.le_of_lt hlt),below_then hb (Nat.le_of_lt hlt) hB⟩

/-- A state of type 127 at block g of W; what its slices lead to came in by w0. -/
def IsS127 (w0 W:World) (g:Nat) (f0:List Int) (f1:Int) (f2:Int):Prop:=∃ A0 c0,W.heap[g]? = some (.cells #[.slice A0 f0.length c0, .int .i64 f1, .int .u64 f2] 127 (0,0))∧w0.heap.size≤g∧Kd.C (Kd.int .u8) w0 A0 f0.length f0
theorem IsS127.grown {w0 W:World} {g:Nat} {f0:List Int} {f1:Int} {f2:Int} {W1:World} {row:Option Nat} (h:IsS127 w0 W g f0 f1 f2) (hw:W.grownBy W1 row) (hne:some g ≠ row):IsS127 w0 W1 g f0 f1 f2:=by
 obtain ⟨A0,c0,hb,hg,hr0⟩:=h
 exact ⟨A0,c0,blk_grown hb hw hne,hg,hr0⟩
theorem IsS127.own_neN {w0 W:World} {g:Nat} {f0:List Int} {f1:Int} {f2:Int} {α:Type} {d:Kd α} {e:Nat} {base:Nat} {ok:Nat→Prop} {v:Value} {xs:List α} (h:IsS127 w0 W g f0 f1 f2) (ho:Kd.N d e W base ok v xs) (ht:e ≠ 127):some g ≠ v.ownBlock:=by
 obtain ⟨A0,c0,hb,hg,hr0⟩:=h
 exact Kd.N_ne ho hb ht
theorem IsS127.fresh {w0 W:World} {g:Nat} {f0:List Int} {f1:Int} {f2:Int} (h:IsS127 w0 W g f0 f1 f2):∀ k,W.heap.size≤k→k ≠ g:=by
 obtain ⟨A0,c0,hb,hg,hr0⟩:=h
 exact Kd.freshB hb
theorem IsS127.kept {w0 W:World} {g:Nat} {f0:List Int} {f1:Int} {f2:Int} {W1:World} {S:Nat→Prop} (h:IsS127 w0 W g f0 f1 f2) (hk:Kept W W1 S) (hne:¬ S g):IsS127 w0 W1 g f0 f1 f2:=by
 obtain ⟨A0,c0,hb,hg,hr0⟩:=h
 exact ⟨A0,c0,blk_kept hb hk hne,hg,hr0⟩
theorem IsS127.below {w0 W:World} {g:Nat} {f0:List Int} {f1:Int} {f2:Int} {W1:World} (h:IsS127 w0 W g f0 f1 f2) (hw:Below W.heap.size W W1):IsS127 w0 W1 g f0 f1 f2:=h.grown (grown_of_below hw none) d41
theorem IsS127.alloc {w0 W:World} {g:Nat} {f0:List Int} {f1:Int} {f2:Int} (h:IsS127 w0 W g f0 f1 f2) (o:Obj):IsS127 w0 (W.alloc o) g f0 f1 f2:=h.below (pa (Below.refl _ _) o)
theorem IsS127.drewN {w0 W:World} {g:Nat} {f0:List Int} {f1:Int} {f2:Int} (h:IsS127 w0 W g f0 f1 f2) (m:Nat):IsS127 w0 (W.drewN m) g f0 f1 f2:=h
theorem IsS127.drew {w0 W:World} {g:Nat} {f0:List Int} {f1:Int} {f2:Int} (h:IsS127 w0 W g f0 f1 f2):IsS127 w0 W.drew g f0 f1 f2:=h
theorem IsS127.at_ {w0 W:World} {g:Nat} {f0:List Int} {f1:Int} {f2:Int} {w':World} {m:Nat} (hq:W.drewN m=w') (h:IsS127 w0 W g f0 f1 f2):IsS127 w0 w' g f0 f1 f2:=by subst hq;exact IsS127.drewN h m
theorem IsS127.apart {w0 W:World} {g:Nat} {f0:List Int} {f1:Int} {f2:Int} {α:Type} {d:Kd α} {e:Nat} {base:Nat} {ok:Nat→Prop} {v:Value} {xs:List α} (h:IsS127 w0 W g f0 f1 f2) (ho:d.R e W base ok v xs) (ht:∀ q,q ∈ e :: d.E→q ≠ 127):d.R e W base (fun k=>ok k∧k ≠ g) v xs:=by
 obtain ⟨A0,c0,hb,hg,hr0⟩:=h
 exact Kd.R_types ho hb ht
theorem IsS127.own_ne {w0 W:World} {g:Nat} {f0:List Int} {f1:Int} {f2:Int} {α:Type} {d:Kd α} {e:Nat} {base:Nat} {ok:Nat→Prop} {v:Value} {xs:List α} (h:IsS127 w0 W g f0 f1 f2) (ho:d.R e W base ok v xs) (ht:e ≠ 127):some g ≠ v.ownBlock:=by
 obtain ⟨A0,c0,hb,hg,hr0⟩:=h
 exact Kd.R_ne ho hb ht
theorem IsS127.apartQ {w0 W:World} {g:Nat} {f0:List Int} {f1:Int} {f2:Int} {α:Type} {d:Kd α} {e:Nat} {base:Nat} {ok:Nat→Prop} {v:Value} {xs:List α} (h:IsS127 w0 W g f0 f1 f2) (ho:d.Q e W base ok v xs) (ht:∀ q,q ∈ e :: d.E→q ≠ 127):d.Q e W base (fun k=>ok k∧k ≠ g) v xs:=by
 obtain ⟨A0,c0,hb,hg,hr0⟩:=h
 exact Kd.Q_types ho hb ht
theorem IsS127.own_neQ {w0 W:World} {g:Nat} {f0:List Int} {f1:Int} {f2:Int} {α:Type} {d:Kd α} {e:Nat} {base:Nat} {ok:Nat→Prop} {v:Value} {xs:List α} (h:IsS127 w0 W g f0 f1 f2) (ho:d.Q e W base ok v xs) (ht:e ≠ 127):some g ≠ v.ownBlock:=by
 obtain ⟨A0,c0,hb,hg,hr0⟩:=h
 exact Kd.Q_ne ho hb ht
theorem IsS127.apartS {w0 W:World} {g:Nat} {f0:List Int} {f1:Int} {f2:Int} {α:Type} {d:Kd α} {e:Nat} {base:Nat} {ok:Nat→Prop} {v:Value} {xs:List α} (h:IsS127 w0 W g f0 f1 f2) (ho:d.S e W base ok v xs) (ht:∀ q,q ∈ e :: d.E→q ≠ 127):d.S e W base (fun k=>ok k∧k ≠ g) v xs:=by
 obtain ⟨A0,c0,hb,hg,hr0⟩:=h
 exact Kd.S_types ho hb ht
theorem IsS127.own_neS {w0 W:World} {g:Nat} {f0:List Int} {f1:Int} {f2:Int} {α:Type} {d:Kd α} {e:Nat} {base:Nat} {ok:Nat→Prop} {v:Value} {xs:List α} (h:IsS127 w0 W g f0 f1 f2) (ho:d.S e W base ok v xs) (ht:e ≠ 127):some g ≠ v.ownBlock:=by
 obtain ⟨A0,c0,hb,hg,hr0⟩:=h
 exact Kd.S_ne ho hb ht
theorem IsS127.lt {w0 W:World} {g:Nat} {f0:List Int} {f1:Int} {f2:Int} (h:IsS127 w0 W g f0 f1 f2):g < W.heap.size:=by
 obtain ⟨A0,c0,hb,hg,hr0⟩:=h
 exact blk_lt hb
theorem IsS127.ge {w0 W:World} {g:Nat} {f0:List Int} {f1:Int} {f2:Int} (h:IsS127 w0 W g f0 f1 f2):w0.heap.size≤g:=by
 obtain ⟨A0,c0,hb,hg,hr0⟩:=h
 exact hg
theorem IsS127.ne_blk {w0 W:World} {g:Nat} {f0:List Int} {f1:Int} {f2:Int} {a:Nat} {cs:Array Value} {t:TypeId} {fr:Nat × Nat} (h:IsS127 w0 W g f0 f1 f2) (hb2:W.heap[a]? = some (.cells cs t fr)) (ht:t ≠ 127):g ≠ a:=by
 obtain ⟨A0,c0,hb,hg,hr0⟩:=h
 rintro rfl
 rw [hb] at hb2
 injection hb2 with hb2
 injection hb2 with _ ht2
 exact ht ht2.symm
theorem IsS127.far {w0 W:World} {g:Nat} {f0:List Int} {f1:Int} {f2:Int} {p:Addr} (h:IsS127 w0 W g f0 f1 f2) (hne:g ≠ p.block) (u:Value):IsS127 w0 (W.setCell p u) g f0 f1 f2:=by
 obtain ⟨A0,c0,hb,hg,hr0⟩:=h
 exact ⟨A0,c0,blk_far hb hne u,hg,hr0⟩
theorem cellS127_0 {W:World} {g:Nat} {A0:Option Addr} {c0:Nat} {f0:List Int} {f1:Int} {f2:Int} (h:W.heap[g]? = some (.cells #[.slice A0 f0.length c0, .int .i64 f1, .int .u64 f2] 127 (0,0))):W.cell? ⟨g,0,none⟩=some (.slice A0 f0.length c0):=(blk_cell h 0).trans rfl
theorem cellS127_1 {W:World} {g:Nat} {A0:Option Addr} {c0:Nat} {f0:List Int} {f1:Int} {f2:Int} (h:W.heap[g]? = some (.cells #[.slice A0 f0.length c0, .int .i64 f1, .int .u64 f2] 127 (0,0))):W.cell? ⟨g,1,none⟩=some (.int .i64 f1):=(blk_cell h 1).trans rfl
theorem IsS127.set_1 {w0 W:World} {g:Nat} {f0:List Int} {f1:Int} {f2:Int} (h:IsS127 w0 W g f0 f1 f2) (x:Int):IsS127 w0 (W.setCell ⟨g,1,none⟩ (.int .i64 x)) g f0 x f2:=by
 obtain ⟨A0,c0,hb,hg,hr0⟩:=h
 exact ⟨A0,c0,by simpa using blk_set hb 1 (.int .i64 x),hg,hr0⟩
theorem cellS127_2 {W:World} {g:Nat} {A0:Option Addr} {c0:Nat} {f0:List Int} {f1:Int} {f2:Int} (h:W.heap[g]? = some (.cells #[.slice A0 f0.length c0, .int .i64 f1, .int .u64 f2] 127 (0,0))):W.cell? ⟨g,2,none⟩=some (.int .u64 f2):=(blk_cell h 2).trans rfl
theorem IsS127.set_2 {w0 W:World} {g:Nat} {f0:List Int} {f1:Int} {f2:Int} (h:IsS127 w0 W g f0 f1 f2) (x:Int):IsS127 w0 (W.setCell ⟨g,2,none⟩ (.int .u64 x)) g f0 f1 x:=by
 obtain ⟨A0,c0,hb,hg,hr0⟩:=h
 exact ⟨A0,c0,by simpa using blk_set hb 2 (.int .u64 x),hg,hr0⟩
theorem IsS127.new (w0 W:World) (A0:Option Addr) (c0:Nat) (f0:List Int) (f1:Int) (f2:Int) (hB:Below w0.heap.size w0 W) (hr0:Kd.C (Kd.int .u8) w0 A0 f0.length f0):IsS127 w0 (W.alloc (.cells #[.slice A0 f0.length c0, .int .i64 f1, .int .u64 f2] 127)) W.heap.size f0 f1 f2:=⟨A0,c0,by simpa using heap_alloc_new W _,hB.size,hr0⟩

def spec_l1Cur_next.f (s0_0:List Int) (s0_1:Int) (s0_2:Int):Option (Int × Int × Int):=if s0_1 < (s0_0.length:Int) then (if 0≤s0_1 then (if (wrap64 (s0_1+1))≤(s0_0.length:Int) then (some (wrap64 (rd s0_0 s0_1),wrap64 (s0_1+1),IntKind.u64.wrap ((IntKind.u64.wrap ((IntKind.u64.wrap (s0_2*6364136223846793005))+(IntKind.u64.wrap (wrap64 (rd s0_0 s0_1)))))+1442695040888963407))) else (some (wrap64 (Go.bits .and .u64 ((IntKind.u64.wrap ((IntKind.u64.wrap ((IntKind.u64.wrap (s0_2*6364136223846793005))+(IntKind.u64.wrap (wrap64 (rd s0_0 s0_1)))))+1442695040888963407)) / 1099511627776) 255),wrap64 (s0_1+1),IntKind.u64.wrap ((IntKind.u64.wrap ((IntKind.u64.wrap (s0_2*6364136223846793005))+(IntKind.u64.wrap (wrap64 (rd s0_0 s0_1)))))+1442695040888963407)))) else (none)) else (if (wrap64 (s0_1+1))≤(s0_0.length:Int) then (some (0,wrap64 (s0_1+1),IntKind.u64.wrap ((IntKind.u64.wrap (IntKind.u64.wrap (s0_2*6364136223846793005)))+1442695040888963407))) else (some (wrap64 (Go.bits .and .u64 ((IntKind.u64.wrap ((IntKind.u64.wrap (IntKind.u64.wrap (s0_2*6364136223846793005)))+1442695040888963407)) / 1099511627776) 255),wrap64 (s0_1+1),IntKind.u64.wrap ((IntKind.u64.wrap (IntKind.u64.wrap (s0_2*6364136223846793005)))+1442695040888963407))))
theorem spec_l1Cur_next.calls (g:Nat) (s0_0:List Int) (s0_1:Int) (s0_2:Int) (r1:Int) (r2:Int) (r3:Int) (w0 w:World) (hI:IsS127 w0 w g s0_0 s0_1 s0_2) (hB:Below w0.heap.size w0 w) (h:spec_l1Cur_next.f s0_0 s0_1 s0_2=some (r1,r2,r3)) :
  Calls Try.prog 145 #[.pointer (some ⟨g,0,none⟩)] w fun e w'=>e = .returned (.int .i64 r1)∧IsS127 w0 w' g s0_0 r2 r3∧Below w0.heap.size w0 w'∧KeepBut w w' g none:=by
 have HI0:=am hI
 have HK:=am (KeepBut.refl w g none)
 have HL:=am hB.size
 clear hI
 have HW0:=am hB.size
 have HB:=am hB
 clear hB
 have H:=h
 unfold spec_l1Cur_next.f at H
 clear h
 by_cases c2:s0_1 < (s0_0.length:Int)
 ·rw [if_pos c2] at H
  have c2b0:=decide_eq_true c2
  clear c2
  obtain ⟨c3,H⟩:=yi H
  have c3b0:=decide_eq_true c3
  clear c3
  by_cases c4:(wrap64 (s0_1+1))≤(s0_0.length:Int)
  ·rw [if_pos c4] at H
   have c4b0:=decide_eq_true c4
   clear c4
   simp only [Option.some.injEq,Prod.mk.injEq] at H
   obtain ⟨rfl,rfl,rfl⟩:=H
   obtain ⟨ASz5_0,cSz5_0,HGz5,hgz5,HSz5_0⟩:=HI0.out
   have hcz5_0:=cellS127_0 HGz5
   have hcz5_1:=cellS127_1 HGz5
   have hcz5_2:=cellS127_2 HGz5
   have hfz5_1:=blk_frozen HGz5 1
   have hfz5_2:=blk_frozen HGz5 2
   clear HGz5 hgz5
   have p114:0≤(s0_1:Int):=od d1
   have q114:s0_1 < (s0_0.length:Int):=od d1
   obtain ⟨ad114,e114,hx114_0⟩:=Kd.at_int HSz5_0 s0_1 p114 q114
   cases e114
   replace hx114_0:=pw_cell_below HB.out hx114_0
   replace p114:=eq_true p114
   replace q114:=eq_true q114
   go_enter Try.func145,Try.ntmps145
   go_wp2
   repeat (go_quiet (fail);try go_wp2)
   go_ret
   exact ⟨d2,d4,d6,d0⟩
  rw [if_neg c4] at H
  have c4b0:=decide_eq_false c4
  clear c4
  simp only [Option.some.injEq,Prod.mk.injEq] at H
  obtain ⟨rfl,rfl,rfl⟩:=H
  obtain ⟨ASz6_0,cSz6_0,HGz6,hgz6,HSz6_0⟩:=HI0.out
  have hcz6_0:=cellS127_0 HGz6
  have hcz6_1:=cellS127_1 HGz6
  have hcz6_2:=cellS127_2 HGz6
  have hfz6_1:=blk_frozen HGz6 1
  have hfz6_2:=blk_frozen HGz6 2
  clear HGz6 hgz6
  have p114:0≤(s0_1:Int):=od d1
  have q114:s0_1 < (s0_0.length:Int):=od d1
  obtain ⟨ad114,e114,hx114_0⟩:=Kd.at_int HSz6_0 s0_1 p114 q114
  cases e114
  replace hx114_0:=pw_cell_below HB.out hx114_0
  replace p114:=eq_true p114
  replace q114:=eq_true q114
  go_enter Try.func145,Try.ntmps145
  go_wp2
  repeat (go_quiet (fail);try go_wp2)
  go_ret
  exact ⟨d2,d4,d6,d0⟩
 rw [if_neg c2] at H
 have c2b0:=decide_eq_false c2
 clear c2
 by_cases c7:(wrap64 (s0_1+1))≤(s0_0.length:Int)
 ·rw [if_pos c7] at H
  have c7b0:=decide_eq_true c7
  clear c7
  simp only [Option.some.injEq,Prod.mk.injEq] at H
  obtain ⟨rfl,rfl,rfl⟩:=H
  obtain ⟨ASz8_0,cSz8_0,HGz8,hgz8,HSz8_0⟩:=HI0.out
  have hcz8_0:=cellS127_0 HGz8
  have hcz8_1:=cellS127_1 HGz8
  have hcz8_2:=cellS127_2 HGz8
  have hfz8_1:=blk_frozen HGz8 1
  have hfz8_2:=blk_frozen HGz8 2
  clear HGz8 hgz8
  go_enter Try.func145,Try.ntmps145
  go_wp2
  repeat (go_quiet (fail);try go_wp2)
  go_ret
  exact ⟨d2,d4,d6,d0⟩
 rw [if_neg c7] at H
 have c7b0:=decide_eq_false c7
 clear c7
 simp only [Option.some.injEq,Prod.mk.injEq] at H
 obtain ⟨rfl,rfl,rfl⟩:=H
 obtain ⟨ASz9_0,cSz9_0,HGz9,hgz9,HSz9_0⟩:=HI0.out
 have hcz9_0:=cellS127_0 HGz9
 have hcz9_1:=cellS127_1 HGz9
 have hcz9_2:=cellS127_2 HGz9
 have hfz9_1:=blk_frozen HGz9 1
 have hfz9_2:=blk_frozen HGz9 2
 clear HGz9 hgz9
 go_enter Try.func145,Try.ntmps145
 go_wp2
 repeat (go_quiet (fail);try go_wp2)
 go_ret
 exact ⟨d2,d4,d6,d0⟩

def spec_l1Cur_pick.f (s0_0:List Int) (s0_1:Int) (s0_2:Int) (a1:Int):Option (Int × Int × Int):=if a1≤1 then (some (0,s0_1,s0_2)) else ((spec_l1Cur_next.f s0_0 s0_1 s0_2).bind fun bt115=>(if a1 > 200 then ((spec_l1Cur_next.f s0_0 bt115.2.1 bt115.2.2).bind fun bt118=>(if a1=0 then (none) else (some (Int.tmod (wrap64 ((wrap64 (bt115.1*256))+bt118.1)) a1,bt118.2.1,bt118.2.2)))) else (if a1=0 then (none) else (some (Int.tmod bt115.1 a1,bt115.2.1,bt115.2.2)))))
theorem spec_l1Cur_pick.calls (g:Nat) (s0_0:List Int) (s0_1:Int) (s0_2:Int) (a1:Int) (r1:Int) (r2:Int) (r3:Int) (w0 w:World) (hI:IsS127 w0 w g s0_0 s0_1 s0_2) (hB:Below w0.heap.size w0 w) (h:spec_l1Cur_pick.f s0_0 s0_1 s0_2 a1=some (r1,r2,r3)) :
  Calls Try.prog 95 #[.pointer (some ⟨g,0,none⟩), .int .i64 a1] w fun e w'=>e = .returned (.int .i64 r1)∧IsS127 w0 w' g s0_0 r2 r3∧Below w0.heap.size w0 w'∧KeepBut w w' g none:=by
 have HI0:=am hI
 have HK:=am (KeepBut.refl w g none)
 have HL:=am hB.size
 clear hI
 have HW0:=am hB.size
 have HB:=am hB
 clear hB
 have H:=h
 unfold spec_l1Cur_pick.f at H
 clear h
 by_cases c3:a1≤1
 ·rw [if_pos c3] at H
  have c3b0:=decide_eq_true c3
  clear c3
  simp only [Option.some.injEq,Prod.mk.injEq] at H
  obtain ⟨rfl,rfl,rfl⟩:=H
  go_enter Try.func95,Try.ntmps95
  go_wp2
  go_ret
  exact ⟨d2,d4,d6,d0⟩
 rw [if_neg c3] at H
 have c3b0:=decide_eq_false c3
 clear c3
 obtain ⟨⟨t115,t116,t117⟩,A4,H⟩:=yo H
 try dsimp only at H
 by_cases c5:a1 > 200
 ·rw [if_pos c5] at H
  have c5b0:decide (200 < a1)=true:=decide_eq_true c5
  clear c5
  obtain ⟨⟨t118,t119,t120⟩,A6,H⟩:=yo H
  try dsimp only at H
  by_cases c7:a1=0
  ·rw [if_pos c7] at H
   exact absurd H d41
  rw [if_neg c7] at H
  have c7b0:(a1 == 0)=false:=beq_eq_false_iff_ne.mpr c7
  have c7b1:(a1 != 0)=true:=bne_iff_ne.mpr c7
  simp only [Option.some.injEq,Prod.mk.injEq] at H
  obtain ⟨rfl,rfl,rfl⟩:=H
  go_enter Try.func95,Try.ntmps95
  go_wp2_with (first|((with_reducible refine gC 145 ?_);refine gM (some 9) Try.func145 (args:=#[.pointer (some ⟨g,0,none⟩)]) (spec_l1Cur_next.calls g s0_0 s0_1 s0_2 t115 t116 t117 w0 _ ?side1 ?side2 A4.out) ?_;(case side1=>repeat (first|(with_reducible first|exact HI0.out|apply IsS127.alloc|apply IsS127.drewN|apply IsS127.drew|apply IsS127.set_1|apply IsS127.set_2)|exact HI0.out));(case side2=>repeat (first|(with_reducible first|exact HB.out|apply pa|apply pb|apply pd|refine pt ?_ (IsS127.ge HI0.out))|exact HB.out));rintro e w8 ⟨rfl,hi,hb,hk⟩;refine ⟨_,rfl,?_⟩;replace HK:=am (KeepBut.trans d0 hk (.inl rfl));replace HB:=am (hb);replace HI0:=am (hi);clear hb hk hi)|((with_reducible refine gC 145 ?_);refine gM (some 15) Try.func145 (args:=#[.pointer (some ⟨g,0,none⟩)]) (spec_l1Cur_next.calls g s0_0 t116 t117 t118 t119 t120 w0 _ ?side1 ?side2 A6.out) ?_;(case side1=>repeat (first|(with_reducible first|exact HI0.out|apply IsS127.alloc|apply IsS127.drewN|apply IsS127.drew|apply IsS127.set_1|apply IsS127.set_2)|exact HI0.out));(case side2=>repeat (first|(with_reducible first|exact HB.out|apply pa|apply pb|apply pd|refine pt ?_ (IsS127.ge HI0.out))|exact HB.out));rintro e w9 ⟨rfl,hi,hb,hk⟩;refine ⟨_,rfl,?_⟩;replace HK:=am (KeepBut.trans d0 hk (.inl rfl));replace HB:=am (hb);replace HI0:=am (hi);clear hb hk hi))
  go_ret
  exact ⟨d2,d4,d6,d0⟩
 rw [if_neg c5] at H
 have c5b0:decide (200 < a1)=false:=decide_eq_false c5
 clear c5
 by_cases c10:a1=0
 ·rw [if_pos c10] at H
  exact absurd H d41
 rw [if_neg c10] at H
 have c10b0:(a1 == 0)=false:=beq_eq_false_iff_ne.mpr c10
 have c10b1:(a1 != 0)=true:=bne_iff_ne.mpr c10
 simp only [Option.some.injEq,Prod.mk.injEq] at H
 obtain ⟨rfl,rfl,rfl⟩:=H
 go_enter Try.func95,Try.ntmps95
 go_wp2_with (first|((with_reducible refine gC 145 ?_);refine gM (some 9) Try.func145 (args:=#[.pointer (some ⟨g,0,none⟩)]) (spec_l1Cur_next.calls g s0_0 s0_1 s0_2 t115 t116 t117 w0 _ ?side1 ?side2 A4.out) ?_;(case side1=>repeat (first|(with_reducible first|exact HI0.out|apply IsS127.alloc|apply IsS127.drewN|apply IsS127.drew|apply IsS127.set_1|apply IsS127.set_2)|exact HI0.out));(case side2=>repeat (first|(with_reducible first|exact HB.out|apply pa|apply pb|apply pd|refine pt ?_ (IsS127.ge HI0.out))|exact HB.out));rintro e w11 ⟨rfl,hi,hb,hk⟩;refine ⟨_,rfl,?_⟩;replace HK:=am (KeepBut.trans d0 hk (.inl rfl));replace HB:=am (hb);replace HI0:=am (hi);clear hb hk hi))
 go_ret
 exact ⟨d2,d4,d6,d0⟩

def spec_l1Cur_one.f (s0_0:List Int) (s0_1:Int) (s0_2:Int) (a1:Int):Option (Bool × Int × Int):=(spec_l1Cur_pick.f s0_0 s0_1 s0_2 a1).bind fun bt121=>(some ((bt121.1 == 0),bt121.2.1,bt121.2.2))
theorem spec_l1Cur_one.calls (g:Nat) (s0_0:List Int) (s0_1:Int) (s0_2:Int) (a1:Int) (r1:Bool) (r2:Int) (r3:Int) (w0 w:World) (hI:IsS127 w0 w g s0_0 s0_1 s0_2) (hB:Below w0.heap.size w0 w) (h:spec_l1Cur_one.f s0_0 s0_1 s0_2 a1=some (r1,r2,r3)) :
  Calls Try.prog 101 #[.pointer (some ⟨g,0,none⟩), .int .i64 a1] w fun e w'=>e = .returned (.bool r1)∧IsS127 w0 w' g s0_0 r2 r3∧Below w0.heap.size w0 w'∧KeepBut w w' g none:=by
 have HI0:=am hI
 have HK:=am (KeepBut.refl w g none)
 have HL:=am hB.size
 clear hI
 have HW0:=am hB.size
 have HB:=am hB
 clear hB
 have H:=h
 unfold spec_l1Cur_one.f at H
 clear h
 obtain ⟨⟨t121,t122,t123⟩,A3,H⟩:=yo H
 try dsimp only at H
 simp only [Option.some.injEq,Prod.mk.injEq] at H
 obtain ⟨rfl,rfl,rfl⟩:=H
 go_enter Try.func101,Try.ntmps101
 go_wp2_with (first|((with_reducible refine gC 95 ?_);refine gM (some 7) Try.func95 (args:=#[.pointer (some ⟨g,0,none⟩), .int .i64 a1]) (spec_l1Cur_pick.calls g s0_0 s0_1 s0_2 a1 t121 t122 t123 w0 _ ?side1 ?side2 A3.out) ?_;(case side1=>repeat (first|(with_reducible first|exact HI0.out|apply IsS127.alloc|apply IsS127.drewN|apply IsS127.drew|apply IsS127.set_1|apply IsS127.set_2)|exact HI0.out));(case side2=>repeat (first|(with_reducible first|exact HB.out|apply pa|apply pb|apply pd|refine pt ?_ (IsS127.ge HI0.out))|exact HB.out));rintro e w4 ⟨rfl,hi,hb,hk⟩;refine ⟨_,rfl,?_⟩;replace HK:=am (KeepBut.trans d0 hk (.inl rfl));replace HB:=am (hb);replace HI0:=am (hi);clear hb hk hi))
 go_ret
 exact ⟨d2,d4,d6,d0⟩

def spec_l1Cur_among.f (s0_0:List Int) (s0_1:Int) (s0_2:Int) (l1:List Int):Option (Int × Int × Int):=(spec_l1Cur_pick.f s0_0 s0_1 s0_2 (l1.length:Int)).bind fun bt124=>(if 0≤bt124.1 then (if bt124.1 < (l1.length:Int) then (some (rd l1 bt124.1,bt124.2.1,bt124.2.2)) else (none)) else (none))
theorem spec_l1Cur_among.calls (g:Nat) (s0_0:List Int) (s0_1:Int) (s0_2:Int) (A1:Option Addr) (c1:Nat) (l1:List Int) (r1:Int) (r2:Int) (r3:Int) (w0 w:World) (hI:IsS127 w0 w g s0_0 s0_1 s0_2) (hB:Below w0.heap.size w0 w) (hr1:Kd.C (Kd.int .i64) w A1 l1.length l1) (hc1:l1.length≤c1) (hf1:∀ ad,A1=some ad→0 < l1.length→ad.block ≠ g) (h:spec_l1Cur_among.f s0_0 s0_1 s0_2 l1=some (r1,r2,r3)) :
  Calls Try.prog 158 #[.pointer (some ⟨g,0,none⟩), .slice A1 l1.length c1] w fun e w'=>e = .returned (.int .i64 r1)∧IsS127 w0 w' g s0_0 r2 r3∧Below w0.heap.size w0 w'∧KeepBut w w' g none:=by
 have HR1:=am hr1
 have HC1:=am hc1
 clear hr1 hc1
 have HI0:=am hI
 have HK:=am (KeepBut.refl w g none)
 have HL:=am hB.size
 clear hI
 have HW0:=am hB.size
 have HB:=am hB
 clear hB
 have H:=h
 unfold spec_l1Cur_among.f at H
 clear h
 obtain ⟨⟨t124,t125,t126⟩,A3,H⟩:=yo H
 try dsimp only at H
 by_cases c4:0≤t124
 ·rw [if_pos c4] at H
  have c4b0:=decide_eq_true c4
  clear c4
  obtain ⟨c5,H⟩:=yi H
  have c5b0:=decide_eq_true c5
  clear c5
  simp only [Option.some.injEq,Prod.mk.injEq] at H
  obtain ⟨rfl,rfl,rfl⟩:=H
  go_enter Try.func158,Try.ntmps158
  go_wp2_with (first|((with_reducible refine gC 95 ?_);refine gM (some 9) Try.func95 (args:=#[.pointer (some ⟨g,0,none⟩), .int .i64 (l1.length:Int)]) (spec_l1Cur_pick.calls g s0_0 s0_1 s0_2 (l1.length:Int) t124 t125 t126 w0 _ ?side1 ?side2 A3.out) ?_;(case side1=>repeat (first|(with_reducible first|exact HI0.out|apply IsS127.alloc|apply IsS127.drewN|apply IsS127.drew|apply IsS127.set_1|apply IsS127.set_2)|exact HI0.out));(case side2=>repeat (first|(with_reducible first|exact HB.out|apply pa|apply pb|apply pd|refine pt ?_ (IsS127.ge HI0.out))|exact HB.out));rintro e w6 ⟨rfl,hi,hb,hk⟩;refine ⟨_,rfl,?_⟩;replace HK:=am (KeepBut.trans d0 hk (.inl rfl));replace HB:=am (hb);replace HI0:=am (hi);clear hb hk hi;have p127:0≤(t124:Int):=od d1;have q127:t124 < (l1.length:Int):=od d1;obtain ⟨ad127,e127,hx127_0⟩:=Kd.at_int HR1.out t124 p127 q127;cases e127;replace hx127_0:=keep_cell HK.out hx127_0 (by first|(rw [add_block];exact hf1 _ rfl d13)|exact hf1 _ rfl d13|exact hf1 ad127 rfl d13);replace p127:=eq_true p127;replace q127:=eq_true q127))
  go_ret
  exact ⟨d2,d4,d6,d0⟩
 rw [if_neg c4] at H
 exact absurd H d41
def spec_l1Cur_side.f (s0_0:List Int) (s0_1:Int) (s0_2:Int):Option (Int × Int × Int):=(spec_l1Cur_one.f s0_0 s0_1 s0_2 30).bind fun bt128=>(if bt128.1=true then ((spec_l1Cur_among.f s0_0 bt128.2.1 bt128.2.2 (([0,16,17]:List Int))).bind fun bt134=>(some (bt134.1,bt134.2.1,bt134.2.2))) else ((spec_l1Cur_pick.f s0_0 bt128.2.1 bt128.2.2 4).bind fun bt137=>(some (wrap64 (1+bt137.1),bt137.2.1,bt137.2.2))))
theorem spec_l1Cur_side.calls (g:Nat) (s0_0:List Int) (s0_1:Int) (s0_2:Int) (r1:Int) (r2:Int) (r3:Int) (w0 w:World) (hI:IsS127 w0 w g s0_0 s0_1 s0_2) (hB:Below w0.heap.size w0 w) (h:spec_l1Cur_side.f s0_0 s0_1 s0_2=some (r1,r2,r3)) :
  Calls Try.prog 134 #[.pointer (some ⟨g,0,none⟩)] w fun e w'=>e = .returned (.int .i64 r1)∧IsS127 w0 w' g s0_0 r2 r3∧Below w0.heap.size w0 w'∧KeepBut w w' g none:=by
 have HI0:=am hI
 have HK:=am (KeepBut.refl w g none)
 have HL:=am hB.size
 clear hI
 have HW0:=am hB.size
 have HB:=am hB
 clear hB
 have H:=h
 unfold spec_l1Cur_side.f at H
 clear h
 obtain ⟨⟨t128,t129,t130⟩,A2,H⟩:=yo H
 try dsimp only at H
 by_cases c3:t128=true
 ·subst c3
  replace H:=yt H
  generalize hy131:(([0,16,17]:List Int):List Int)=y131 at H
  have Ny131:=am hy131.symm
  clear hy131
  obtain ⟨⟨t134,t135,t136⟩,A4,H⟩:=yo H
  try dsimp only at H
  simp only [Option.some.injEq,Prod.mk.injEq] at H
  obtain ⟨rfl,rfl,rfl⟩:=H
  go_enter Try.func134,Try.ntmps134
  go_wp2_with (first|((with_reducible refine gC 101 ?_);refine gM (some 4) Try.func101 (args:=#[.pointer (some ⟨g,0,none⟩), .int .i64 30]) (spec_l1Cur_one.calls g s0_0 s0_1 s0_2 30 true t129 t130 w0 _ ?side1 ?side2 A2.out) ?_;(case side1=>repeat (first|(with_reducible first|exact HI0.out|apply IsS127.alloc|apply IsS127.drewN|apply IsS127.drew|apply IsS127.set_1|apply IsS127.set_2)|exact HI0.out));(case side2=>repeat (first|(with_reducible first|exact HB.out|apply pa|apply pb|apply pd|refine pt ?_ (IsS127.ge HI0.out))|exact HB.out));rintro e w5 ⟨rfl,hi,hb,hk⟩;refine ⟨_,rfl,?_⟩;replace HK:=am (KeepBut.trans d0 hk (.inl rfl));replace HB:=am (hb);replace HI0:=am (hi);clear hb hk hi)|((with_reducible refine gD 6 ?_);refine Kd.R_lit (Kd.int .i64) _ 3 d20 (N:=6) d20 (xs:=([0,16,17]:List Int)) (inner:=[.int .i64 0, .int .i64 16, .int .i64 17]) (ok:=fun _=>True) (okp:=fun _=>True) d28 (by exact (Reps.one (show Kd.M (Kd.int .i64) _ _ _ 0 [.int .i64 0] from rfl) (Reps.one (show Kd.M (Kd.int .i64) _ _ _ 16 [.int .i64 16] from rfl) (Reps.one (show Kd.M (Kd.int .i64) _ _ _ 17 [.int .i64 17] from rfl) (Reps.none _ _))))) (fun _ hk=>hk) trivial (Below.refl _ _) (Nat.le_refl _) d41 ?_;intro v132 w6 ho7 hb hg_ hnew_;clear hg_ hnew_;(first|rw [← Ny131.out] at ho7|(simp only [Int.reduceToNat] at ho7;rw [← Ny131.out] at ho7));have HO133:=am (Kd.R_lower ho7 (keep_size (w:=w) (g:=g) (row:=none) d0));replace HK:=am (KeepBut.trans d0 (KeepBut.of_below hb g none) (.inl rfl));replace HB:=am (pu d6 hb);replace HI0:=am (IsS127.below d4 hb);clear hb ho7;obtain ⟨Ao8,co8,eo8⟩:=Kd.R_slice HO133.out;subst eo8)|((with_reducible refine gC 158 ?_);refine gM (some 7) Try.func158 (args:=#[.pointer (some ⟨g,0,none⟩), .slice Ao8 y131.length co8]) (spec_l1Cur_among.calls g s0_0 t129 t130 _ _ y131 t134 t135 t136 w0 _ ?side1 ?side2 ?side3 ?side4 ?side5 A4.out) ?_;(case side1=>repeat (first|(with_reducible first|exact HI0.out|apply IsS127.alloc|apply IsS127.drewN|apply IsS127.drew|apply IsS127.set_1|apply IsS127.set_2)|exact HI0.out));(case side2=>repeat (first|(with_reducible first|exact HB.out|apply pa|apply pb|apply pd|refine pt ?_ (IsS127.ge HI0.out))|exact HB.out));(case side3=>repeat (first|exact (Kd.R_reads' HO133.out).2.2|(with_reducible refine Kd.C_alloc ?_ _)|(with_reducible refine Kd.C_drewN ?_ _)|(with_reducible refine Kd.C_drew ?_)));(case side4=>exact (Kd.R_reads' HO133.out).2.1);(case side5=>exact far_slice (IsS127.own_ne HI0.out HO133.out d9));rintro e w9 ⟨rfl,hi,hb,hk⟩;refine ⟨_,rfl,?_⟩;replace HO133:=am (Kd.R_mono (Kd.R_keep (IsS127.apart (show IsS127 w0 _ g s0_0 t129 t130 from by repeat (first|(with_reducible first|exact HI0.out|apply IsS127.alloc|apply IsS127.drewN|apply IsS127.drew|apply IsS127.set_1|apply IsS127.set_2)|exact HI0.out)) (yR HO133) d9) hk (fun _ h=>h.2)) (fun _ h=>h.1));replace HK:=am (KeepBut.trans d0 hk (.inl rfl));replace HB:=am (hb);replace HI0:=am (hi);clear hb hk hi))
  go_ret
  exact ⟨d2,d4,d6,d0⟩
 replace c3:=Bool.eq_false_iff.mpr c3
 subst c3
 replace H:=yn H
 obtain ⟨⟨t137,t138,t139⟩,A10,H⟩:=yo H
 try dsimp only at H
 simp only [Option.some.injEq,Prod.mk.injEq] at H
 obtain ⟨rfl,rfl,rfl⟩:=H
 go_enter Try.func134,Try.ntmps134
 go_wp2_with (first|((with_reducible refine gC 101 ?_);refine gM (some 4) Try.func101 (args:=#[.pointer (some ⟨g,0,none⟩), .int .i64 30]) (spec_l1Cur_one.calls g s0_0 s0_1 s0_2 30 false t129 t130 w0 _ ?side1 ?side2 A2.out) ?_;(case side1=>repeat (first|(with_reducible first|exact HI0.out|apply IsS127.alloc|apply IsS127.drewN|apply IsS127.drew|apply IsS127.set_1|apply IsS127.set_2)|exact HI0.out));(case side2=>repeat (first|(with_reducible first|exact HB.out|apply pa|apply pb|apply pd|refine pt ?_ (IsS127.ge HI0.out))|exact HB.out));rintro e w11 ⟨rfl,hi,hb,hk⟩;refine ⟨_,rfl,?_⟩;replace HK:=am (KeepBut.trans d0 hk (.inl rfl));replace HB:=am (hb);replace HI0:=am (hi);clear hb hk hi)|((with_reducible refine gC 95 ?_);refine gM (some 9) Try.func95 (args:=#[.pointer (some ⟨g,0,none⟩), .int .i64 4]) (spec_l1Cur_pick.calls g s0_0 t129 t130 4 t137 t138 t139 w0 _ ?side1 ?side2 A10.out) ?_;(case side1=>repeat (first|(with_reducible first|exact HI0.out|apply IsS127.alloc|apply IsS127.drewN|apply IsS127.drew|apply IsS127.set_1|apply IsS127.set_2)|exact HI0.out));(case side2=>repeat (first|(with_reducible first|exact HB.out|apply pa|apply pb|apply pd|refine pt ?_ (IsS127.ge HI0.out))|exact HB.out));rintro e w12 ⟨rfl,hi,hb,hk⟩;refine ⟨_,rfl,?_⟩;replace HK:=am (KeepBut.trans d0 hk (.inl rfl));replace HB:=am (hb);replace HI0:=am (hi);clear hb hk hi))
 go_ret
 exact ⟨d2,d4,d6,d0⟩

def spec_DrawVandermonde.g (s0_0:List Int) (s0_1:Int) (s0_2:Int):Option (Int × Int × Int × Int):=(spec_l1Cur_side.f s0_0 s0_1 s0_2).bind fun bt127=>((spec_l1Cur_side.f s0_0 bt127.2.1 bt127.2.2).bind fun bt130=>(some (bt127.1,bt130.1,bt130.2.1,bt130.2.2)))
def spec_DrawVandermonde.f (l0:List Int):Option (Int × Int):=(spec_DrawVandermonde.g l0 0 0).bind fun b=>some (b.1,b.2.1)
theorem spec_DrawVandermonde.calls (A0:Option Addr) (c0:Nat) (l0:List Int) (p1:Int) (p2:Int) (w0:World) (hr0:Kd.C (Kd.int .u8) w0 A0 l0.length l0) (hc0:l0.length≤c0) (h:spec_DrawVandermonde.f l0=some (p1,p2)) :
  Calls Try.prog 81 #[.slice A0 l0.length c0] w0 fun e w'=>e = .returned (.tuple #[.int .i64 p1, .int .i64 p2])∧Below w0.heap.size w0 w':=by
 unfold spec_DrawVandermonde.f at h
 obtain ⟨⟨r1,r2,r3,r4⟩,hG_,he_⟩:=Option.bind_eq_some_iff.mp h
 clear h
 have h:=hG_
 clear hG_
 simp only [Option.some.injEq,Prod.mk.injEq] at he_
 obtain ⟨rfl,rfl⟩:=he_
 have HR:=am hr0
 clear hr0 hc0
 have HB:=am (Below.refl w0.heap.size w0)
 have HL:=am (Nat.le_refl w0.heap.size)
 have HW0:=HL
 have hu127:=Try.underlying127
 have H:=h
 unfold spec_DrawVandermonde.f at H
 clear h
 obtain ⟨⟨t127,t128,t129⟩,A2,H⟩:=yo H
 try dsimp only at H
 obtain ⟨⟨t130,t131,t132⟩,A3,H⟩:=yo H
 try dsimp only at H
 simp only [Option.some.injEq,Prod.mk.injEq] at H
 obtain ⟨rfl,rfl,rfl,rfl⟩:=H
 go_enter Try.func81,Try.ntmps81
 go_wp2_with (first|((with_reducible refine gD 7 ?_);refine gB (cs:=#[.slice A0 l0.length c0, .int .i64 0, .int .u64 0]) 127 ?_;intro g hg wS hbox hb;have n0_:=yH HB hb;have HI0:=am (show IsS127 w0 _ g l0 0 0 from ⟨A0,c0,hbox,by rw [hg];exact pz (yW HB),HR.out⟩);clear HB;have HB:=n0_;clear n0_;have HK:=am (KeepBut.of_below HB.out g none);clear hb hbox hg)|((with_reducible refine gC 134 ?_);refine gM (some 9) Try.func134 (args:=#[.pointer (some ⟨g,0,none⟩)]) (spec_l1Cur_side.calls g l0 0 0 t127 t128 t129 w0 _ ?side1 ?side2 A2.out) ?_;(case side1=>repeat (first|(with_reducible first|exact HI0.out|apply IsS127.alloc|apply IsS127.drewN|apply IsS127.drew|apply IsS127.set_1|apply IsS127.set_2)|exact HI0.out));(case side2=>repeat (first|(with_reducible first|exact HB.out|apply pa|apply pb|apply pd|refine pt ?_ (IsS127.ge HI0.out))|exact HB.out));rintro e w4 ⟨rfl,hi,hb,hk⟩;refine ⟨_,rfl,?_⟩;replace HK:=am (KeepBut.trans d0 hk (.inl rfl));replace HB:=am (hb);replace HI0:=am (hi);clear hb hk hi)|((with_reducible refine gC 134 ?_);refine gM (some 11) Try.func134 (args:=#[.pointer (some ⟨g,0,none⟩)]) (spec_l1Cur_side.calls g l0 t128 t129 t130 t131 t132 w0 _ ?side1 ?side2 A3.out) ?_;(case side1=>repeat (first|(with_reducible first|exact HI0.out|apply IsS127.alloc|apply IsS127.drewN|apply IsS127.drew|apply IsS127.set_1|apply IsS127.set_2)|exact HI0.out));(case side2=>repeat (first|(with_reducible first|exact HB.out|apply pa|apply pb|apply pd|refine pt ?_ (IsS127.ge HI0.out))|exact HB.out));rintro e w5 ⟨rfl,hi,hb,hk⟩;refine ⟨_,rfl,?_⟩;replace HK:=am (KeepBut.trans d0 hk (.inl rfl));replace HB:=am (hb);replace HI0:=am (hi);clear hb hk hi))
 go_ret2
 exact ⟨d2,d6⟩

def spec_DrawCauchy.f (l0:List Int):Option (Int × Int):=(spec_DrawVandermonde.f l0).bind fun bt140=>(some (bt140.1,bt140.2))
theorem spec_DrawCauchy.calls (A0:Option Addr) (c0:Nat) (l0:List Int) (r1:Int) (r2:Int) (w:World) (hr0:Kd.C (Kd.int .u8) w A0 l0.length l0) (hc0:l0.length≤c0) (h:spec_DrawCauchy.f l0=some (r1,r2)) :
  Calls Try.prog 30 #[.slice A0 l0.length c0] w fun e w'=>e = .returned (.tuple #[.int .i64 r1, .int .i64 r2])∧Below w.heap.size w w':=by
 have HR0:=am hr0
 have HC0:=am hc0
 clear hr0 hc0
 have HB:=am (Below.refl w.heap.size w)
 have H:=h
 unfold spec_DrawCauchy.f at H
 clear h
 obtain ⟨⟨t140,t141⟩,A2,H⟩:=yo H
 try dsimp only at H
 simp only [Option.some.injEq,Prod.mk.injEq] at H
 obtain ⟨rfl,rfl⟩:=H
 go_enter Try.func30,Try.ntmps30
 go_wp2_with (first|((with_reducible refine gC 81 ?_);refine gM (some 5) Try.func81 (args:=#[.slice A0 l0.length c0]) (spec_DrawVandermonde.calls _ _ l0 t140 t141 _ (yc HR0.out) HC0.out A2.out) ?_;rintro e w3 ⟨rfl,hb⟩;refine ⟨_,rfl,?_⟩;replace HB:=yH HB hb;clear hb))
 go_ret2
 exact ⟨d2,yW HB⟩

def impl_within.f (a0:Int) (a1:Int) (a2:Int):Option (Bool):=if a0 ≥ a1 then (some (decide (a0≤a2))) else (some false)
theorem impl_within.calls (a0:Int) (a1:Int) (a2:Int) (r:Bool) (w:World) (h:impl_within.f a0 a1 a2=some r) :
  Calls Try.prog 104 #[.int .i64 a0, .int .i64 a1, .int .i64 a2] w fun e w'=>e = .returned (.bool r)∧Drawn0 w w':=by
 have H:=h
 unfold impl_within.f at H
 clear h
 by_cases c4:a0 ≥ a1
 ·rw [if_pos c4] at H
  have c4b0:decide (a1≤a0)=true:=decide_eq_true c4
  clear c4
  obtain rfl:=Option.some.inj H
  go_enter Try.func104,Try.ntmps104
  go_wp2
  go_ret
  exact ⟨d3,d10⟩
 rw [if_neg c4] at H
 have c4b0:decide (a1≤a0)=false:=decide_eq_false c4
 clear c4
 obtain rfl:=Option.some.inj H
 go_enter Try.func104,Try.ntmps104
 go_wp2
 go_ret
 exact ⟨d3,d10⟩

def impl_areSides.f (a0:Int) (a1:Int):Option (Bool):=(impl_within.f a0 1 16).bind fun t142=>(if t142=true then ((impl_within.f a1 1 16).bind fun t143=>(some t143)) else (some false))
theorem impl_areSides.calls (a0:Int) (a1:Int) (r:Bool) (w:World) (h:impl_areSides.f a0 a1=some r) :
  Calls Try.prog 82 #[.int .i64 a0, .int .i64 a1] w fun e w'=>e = .returned (.bool r)∧Drawn0 w w':=by
 have H:=h
 unfold impl_areSides.f at H
 clear h
 obtain ⟨t142,A3,H⟩:=yo H
 by_cases c4:t142=true
 ·subst c4
  replace H:=yt H
  obtain ⟨t143,A5,H⟩:=yo H
  obtain rfl:=Option.some.inj H
  go_enter Try.func82,Try.ntmps82
  go_wp2_with (first|((with_reducible refine gC 104 ?_);refine gM (some 6) Try.func104 (args:=#[.int .i64 a0, .int .i64 1, .int .i64 16]) (impl_within.calls a0 1 16 true _ A3.out) ?_;rintro e w' ⟨rfl,⟨nd,rfl⟩⟩;refine ⟨_,rfl,?_⟩)|(go_at_call 104;(with_reducible refine (impl_within.calls a1 1 16 t143 _ A5.out).mono ?_);rintro e w' ⟨rfl,⟨nd,rfl⟩⟩))
  go_ret
  exact ⟨d3,d10⟩
 replace c4:=Bool.eq_false_iff.mpr c4
 subst c4
 replace H:=yn H
 obtain rfl:=Option.some.inj H
 go_enter Try.func82,Try.ntmps82
 go_wp2_with (first|((with_reducible refine gC 104 ?_);refine gM (some 6) Try.func104 (args:=#[.int .i64 a0, .int .i64 1, .int .i64 16]) (impl_within.calls a0 1 16 false _ A3.out) ?_;rintro e w' ⟨rfl,⟨nd,rfl⟩⟩;refine ⟨_,rfl,?_⟩))
 go_ret
 exact ⟨d3,d10⟩

def impl_Cauchy.f (k:Nat) (a0:Int) (a1:Int):Option ((List (List Int)) × Bool):=(impl_areSides.f a0 a1).bind fun t145=>(if t145=true then ((impl_cauchy.f k a0 a1).bind fun t146=>(some (t146,true))) else (some (([]:List (List Int)),false)))
theorem impl_Cauchy.mono:∀ a0 a1 k,LeO (impl_Cauchy.f k a0 a1) (impl_Cauchy.f (k+1) a0 a1):=by
 intro a0 a1 k
 unfold impl_Cauchy.f
 exact mm
theorem impl_Cauchy.calls (k:Nat) (a0:Int) (a1:Int) (r1:List (List Int)) (r2:Bool) (w:World) (h:impl_Cauchy.f k a0 a1=some (r1,r2)) :
  Calls Try.prog 31 #[.int .i64 a0, .int .i64 a1] w fun e w'=>∃ v0_:Value,e = .returned (.tuple #[.agg #[v0_], .bool r2])∧Kd.S (Kd.slice 5 (Kd.int .u8)) 24 w' w.heap.size (fun _=>True) v0_ r1∧Below w.heap.size w w':=by
 have hu27:=Try.underlying27
 have HB:=am (Below.refl w.heap.size w)
 have H:=h
 unfold impl_Cauchy.f at H
 clear h
 obtain ⟨t145,A3,H⟩:=yo H
 by_cases c4:t145=true
 ·subst c4
  replace H:=yt H
  obtain ⟨t146,A5,H⟩:=yo H
  simp only [Option.some.injEq,Prod.mk.injEq] at H
  obtain ⟨rfl,rfl⟩:=H
  go_enter Try.func31,Try.ntmps31
  go_wp2_with (first|((with_reducible refine gD 4 ?_);refine gB (cs:=#[.slice none 0 0]) 27 ?_;intro gb144 hg w6 hbox hb;have BK144:=am (hbox);have GW144:=ye HB hg;replace HB:=yH HB hb;have GE144:=GW144;clear hb hbox hg)|((with_reducible refine gC 82 ?_);refine gM (some 8) Try.func82 (args:=#[.int .i64 a0, .int .i64 a1]) (impl_areSides.calls a0 a1 true _ A3.out) ?_;rintro e w' ⟨rfl,⟨nd,rfl⟩⟩;refine ⟨_,rfl,?_⟩;(try (rw [drewN_self w6];generalize hq_:World.drewN w6 _=w6;have n0_:Aside0 (w6.heap[gb144]? = some (.cells #[.slice none 0 0] 27 (0,0))):=⟨by rw [← hq_];exact (yB BK144)⟩;have n1_:Aside0 (Below w.heap.size w w6):=⟨d19⟩;clear BK144 HB hq_;have BK144:=n0_;have HB:=n1_;clear n0_ n1_)))|((with_reducible refine gC 83 ?_);refine gM (some 13) Try.func83 (args:=#[.int .i64 a0, .int .i64 a1]) (impl_cauchy.calls k a0 a1 t146 _ A5.out) ?_;rintro e w7 ⟨v147,rfl,ho0,hb⟩;refine ⟨_,rfl,?_⟩;have HO148:=am (Kd.S_lower ho0 (pz (yW HB)));replace BK144:=yb BK144 hb;replace HB:=yH HB hb;clear hb ho0;obtain ⟨Ao8,co8,eo8⟩:=Kd.S_slice HO148.out;subst eo8;obtain ⟨hcz9_0,hfz9_0⟩:=yk1 BK144))
  refine bodyPost_ret (results_ct rfl _ _ gb144 27 #[.slice Ao8 t146.length co8] (0,0) _ rfl (by refine sB ?_;refine blk_put (cs:=#[.slice none 0 0]) ?_ 0 _ rfl;exact yB BK144) Try.underlying27 rfl d12) rfl ?_
  exact ⟨_,d2,by refine sS ?_;exact Kd.S_mono (Kd.S_far (p:=⟨gb144,0,none⟩) (Kd.S_types HO148.out BK144.out d9) (fun _ hk=>hk.2) (.slice Ao8 t146.length co8)) (fun _ hk=>trivial),yW HB⟩
 replace c4:=Bool.eq_false_iff.mpr c4
 subst c4
 replace H:=yn H
 simp only [Option.some.injEq,Prod.mk.injEq] at H
 obtain ⟨rfl,rfl⟩:=H
 go_enter Try.func31,Try.ntmps31
 go_wp2_with (first|((with_reducible refine gD 4 ?_);refine gB (cs:=#[.slice none 0 0]) 27 ?_;intro gb144 hg w10 hbox hb;have BK144:=am (hbox);have GW144:=ye HB hg;replace HB:=yH HB hb;have GE144:=GW144;clear hb hbox hg)|((with_reducible refine gC 82 ?_);refine gM (some 8) Try.func82 (args:=#[.int .i64 a0, .int .i64 a1]) (impl_areSides.calls a0 a1 false _ A3.out) ?_;rintro e w' ⟨rfl,⟨nd,rfl⟩⟩;refine ⟨_,rfl,?_⟩;(try (rw [drewN_self w10];generalize hq_:World.drewN w10 _=w10;have n0_:Aside0 (w10.heap[gb144]? = some (.cells #[.slice none 0 0] 27 (0,0))):=⟨by rw [← hq_];exact (yB BK144)⟩;have n1_:Aside0 (Below w.heap.size w w10):=⟨d19⟩;clear BK144 HB hq_;have BK144:=n0_;have HB:=n1_;clear n0_ n1_));obtain ⟨hcz11_0,hfz11_0⟩:=yk1 BK144))
 refine bodyPost_ret (results_ct rfl _ _ gb144 27 #[.slice none 0 0] (0,0) _ rfl (by refine sB ?_;refine blk_put (cs:=#[.slice none 0 0]) ?_ 0 _ rfl;exact yB BK144) Try.underlying27 rfl d12) rfl ?_
 exact ⟨_,d2,d11,yW HB⟩

def spec_l1In.f (a0:Int) (a1:Int) (a2:Int):Option (Bool):=if a0 ≥ a1 then (some (decide (a0≤a2))) else (some false)
theorem spec_l1In.calls (a0:Int) (a1:Int) (a2:Int) (r:Bool) (w:World) (h:spec_l1In.f a0 a1 a2=some r) :
  Calls Try.prog 84 #[.int .i64 a0, .int .i64 a1, .int .i64 a2] w fun e w'=>e = .returned (.bool r)∧Drawn0 w w':=by
 have H:=h
 unfold spec_l1In.f at H
 clear h
 by_cases c4:a0 ≥ a1
 ·rw [if_pos c4] at H
  have c4b0:decide (a1≤a0)=true:=decide_eq_true c4
  clear c4
  obtain rfl:=Option.some.inj H
  go_enter Try.func84,Try.ntmps84
  go_wp2
  go_ret
  exact ⟨d3,d10⟩
 rw [if_neg c4] at H
 have c4b0:decide (a1≤a0)=false:=decide_eq_false c4
 clear c4
 obtain rfl:=Option.some.inj H
 go_enter Try.func84,Try.ntmps84
 go_wp2
 go_ret
 exact ⟨d3,d10⟩

def spec_l2Blank.l0:Nat→Int→Int→Int→List (List Int)→Option ((List (List Int)))
 | 0,_,_,_,_=>none
 | k+1,x0,x1,x6,x151000=>if x6 < x0 then (if 0≤x1 then (if (x1:Int).toNat≤281474976710656 then (if x151000.length < 5864062014805 then (spec_l2Blank.l0 k x0 x1 (wrap64 (x6+1)) (x151000 ++ [(List.replicate (x1:Int).toNat 0)])) else (none)) else (none)) else (none)) else (some x151000)
def spec_l2Blank.f (k:Nat) (a0:Int) (a1:Int):Option ((List (List Int))):=spec_l2Blank.l0 k a0 a1 0 ([]:List (List Int))
theorem spec_l2Blank.mono_l:∀ k,(∀ y0 y1 y2 y3,LeO (spec_l2Blank.l0 k y0 y1 y2 y3) (spec_l2Blank.l0 (k+1) y0 y1 y2 y3))
 | 0=>fun _ _ _ _ r h=>by simp [spec_l2Blank.l0] at h
 | k+1=>by
  have ih0:=spec_l2Blank.mono_l k
  intro y0 y1 y2 y3
  unfold spec_l2Blank.l0
  exact mm
theorem spec_l2Blank.mono:∀ a0 a1 k,LeO (spec_l2Blank.f k a0 a1) (spec_l2Blank.f (k+1) a0 a1):=by
 intro a0 a1 k
 have ih0:=spec_l2Blank.mono_l k
 unfold spec_l2Blank.f
 exact mm
def spec_l2Blank.T5:Bool × List (List Nat × List Nat):=(true,[([],[]),([0],[0]),([],[]),([2,2],[2]),([3],[3]),([1,4],[1,4]),([0,1,2,3,4,5],[]),([6,5,5,0,1,2,3,4,5],[5,6])])
def spec_l2Blank.B5:List Nat:=[0,1,0,4,12,31,63,127]
theorem spec_l2Blank.tab5:rtab .any (opsOf Try.f124 5)=spec_l2Blank.T5:=by kernel_rfl
theorem spec_l2Blank.bits5:waitsOk spec_l2Blank.T5.2 spec_l2Blank.B5=true:=by kernel_rfl
theorem spec_l2Blank.calls (k:Nat) (a0:Int) (a1:Int) (r:List (List Int)) (w:World) (h:spec_l2Blank.f k a0 a1=some r) :
  Calls Try.prog 124 #[.int .i64 a0, .int .i64 a1] w fun e w'=>∃ v0_:Value,e = .returned (.agg #[v0_])∧Kd.S (Kd.slice 5 (Kd.int .u8)) 24 w' w.heap.size (fun _=>True) v0_ r∧Below w.heap.size w w':=by
 have hu27:=Try.underlying27
 have HB:=am (Below.refl w.heap.size w)
 have H:=h
 unfold spec_l2Blank.f at H
 clear h
 have H':=am H
 clear H
 go_enter Try.func124,Try.ntmps124
 go_wp2_with (first|((with_reducible refine gD 4 ?_);refine gB (cs:=#[.slice none 0 0]) 27 ?_;intro gb149 hg w3 hbox hb;have BK149:=am (hbox);have GW149:=ye HB hg;replace HB:=yH HB hb;have GE149:=GW149;clear hb hbox hg)|((with_reducible refine gD 5 ?_);refine gB (cs:=#[.slice none 0 0]) 27 ?_;intro gb150 hg w4 hbox hb;have BK150:=am (hbox);have GW150:=ye HB hg;replace HB:=yH HB hb;have NB149_150:=yl BK149 hg;have NB150_149:=yg BK149 hg;replace BK149:=yb BK149 hb;have GE150:=GW150;clear hb hbox hg;have hnb5:=NB150_149.out;have hnc5:=NB149_150.out;obtain ⟨hcz6_0,hfz6_0⟩:=yk1 BK150))
 go_loopg [6] k (fun kq v6 w'=>∃ (x6_1:Int) (x151000_1:List (List Int)) (u151000:Value),v6 = .int .i64 x6_1∧Aside0 (spec_l2Blank.l0 kq a0 a1 x6_1 x151000_1=some r)∧Aside0 (kq≤k)∧Aside0 (Kd.S (Kd.slice 5 (Kd.int .u8)) 24 w' w.heap.size (fun _=>True) u151000 x151000_1)∧Aside0 (w'.heap[gb149]? = some (.cells #[(.slice none 0 0)] 27 (0,0)))∧Aside0 (w'.heap[gb150]? = some (.cells #[u151000] 27 (0,0)))∧Aside0 (Below w.heap.size w w'))
 case atStart=>exact ⟨(0),(([]:List (List Int))),(.slice none 0 0),d3,H',⟨Nat.le_refl _⟩,⟨d11⟩,⟨yF BK149⟩,⟨by refine sB ?_;refine blk_put (cs:=#[.slice none 0 0]) ?_ 0 _ rfl;exact yB BK150⟩,⟨yW HB⟩⟩
 case round =>
  clear H'
  try clear c1
  try clear p2
  try clear c5
  try clear hcz6_0
  try clear hfz6_0
  obtain ⟨x6_1,x151000_1,u151000,rfl,HA,HK1,HO_151000,BK149,BK150,HB⟩:=hrel
  cases gk with
  | zero=>exact absurd HA.out (by simp [spec_l2Blank.l0])
  | succ k1 =>
   have H:=HA.out
   clear HA
   simp only [spec_l2Blank.l0] at H
   by_cases c7:x6_1 < a0
   ·rw [if_pos c7] at H
    have c7b0:=decide_eq_true c7
    clear c7
    obtain ⟨c8,H⟩:=yi H
    have c8b0:=eq_true c8
    have c8b1:decide (0≤a1)=true:=decide_eq_true c8
    clear c8
    obtain ⟨c9,H⟩:=yi H
    have c9b0:=eq_true c9
    have c9b1:decide ((a1:Int).toNat≤281474976710656)=true:=decide_eq_true c9
    clear c9
    generalize hy151:(List.replicate (a1:Int).toNat 0:List Int)=y151 at H
    have Ny151:=am hy151.symm
    clear hy151
    obtain ⟨c10,H⟩:=yi H
    have LMc10:=am c10
    clear c10
    generalize hy154:(x151000_1 ++ [y151]:List (List Int))=y154 at H
    have Ny154:=am hy154.symm
    clear hy154
    have H':=am H
    clear H
    try go_wp2
    replace HO_151000:=am (Kd.S_drew HO_151000.out)
    replace BK149:=am (qd BK149.out)
    replace BK150:=am (qd BK150.out)
    replace HB:=am (pd HB.out)
    refine rS (n:=8) (S:=fun w'=>w'.cell? ⟨gb150,0,none⟩=some (u151000)) (ds:=[7]) [(0,13),(2,15),(1,14),(3,0),(4,0),(5,0),(6,19),(7,0)] d12 rfl spec_l2Blank.tab5 spec_l2Blank.bits5 (yk BK150 0) (fun hHeld HT_ HW_=>?_)
    generalize wr.drew=w11 at HO_151000 BK149 BK150 HB hHeld ⊢
    refine rR ?_
    refine rO (N:=some 16) HT_ rfl rfl d12 d9 (fun K hK=>?_)
    refine Kd.R_make_step (Kd.int .u8) _ 5 d20 (N:=16) rfl 24 _ _ rfl a1 rfl rfl Try.underlying24 (.int .u8 0) 1 info5 rfl d9 d13 0 (ok:=fun _=>True) (okp:=fun _=>True) rfl (fun _ hk=>hk) trivial (od d1) (Nat.le_trans (Nat.mul_le_mul_right _ (od d1:a1.toNat≤281474976710656)) d13) (Below.refl _ _) (Nat.le_refl _) ?_
    intro v152 w12 ho13 hb hg_ hnew_
    clear hg_ hnew_
    (first|rw [← Ny151.out] at ho13|(simp only [Int.reduceToNat] at ho13;rw [← Ny151.out] at ho13))
    replace HO_151000:=eS HO_151000 (Kd.R_base ho13) hb
    have HO153:=am (Kd.R_lower ho13 (pz (yW HB)))
    replace BK149:=yb BK149 hb
    replace BK150:=yb BK150 hb
    replace HB:=yH HB hb
    clear hb ho13
    obtain ⟨Ao15,co15,eo15⟩:=Kd.R_slice HO153.out
    (first|subst eo15|(injection eo15 with f1_ f2_ f3_;have f4_:=f1_.symm;have f5_:=f3_.symm;clear f1_ f2_ f3_;subst f4_;subst f5_))
    refine hK.out _ _ (yk BK150 0) (fun hHeld=>?_)
    clear hK K
    refine rN (a':=?_) ?_ ?_
    rotate_left
    ·show Act.put _ (some 16) _=_
     simp only [Act.put,q1,q2,q3,i64_w,i32_w]
     rfl
    refine rO (N:=some 17) HT_ rfl rfl d12 d9 (fun K hK=>?_)
    refine value_ (w1:=?_) (v:=?_) d20 rfl ?_ ?_
    rotate_left 2
    ·go_simp
     constructor
     ·rfl
     rfl
    refine hK.out _ _ ((blk_cell (qa BK150.out _) 0).trans rfl) (fun hHeld=>?_)
    clear hK K
    refine rN (a':=?_) ?_ ?_
    rotate_left
    ·show Act.put _ (some 17) _=_
     simp only [Act.put,q1,q2,q3,i64_w,i32_w]
     rfl
    refine rO (N:=some 18) HT_ rfl rfl d12 d9 (fun K hK=>?_)
    refine Kd.S_append_step (Kd.slice 5 (Kd.int .u8)) (w0:=w) w.heap.size d20 (.tmp 14) (.tmp 17) 25 24 (.slice none 0 0) 24 rfl Try.underlying25 info24 rfl d9 d13 u151000 x151000_1 y151 [.slice Ao15 y151.length co15] (fun _=>True) (fun k_=>some k_=(.slice Ao15 y151.length co15:Value).ownBlock) rfl rfl ?aP (fun k_ hk_=>((Kd.R_mono (ok':=fun k_=>((fun _=>True)) k_∧some k_ ≠ (u151000:Value).ownBlock) (Kd.R_apart' (HO153.out) (Kd.S_typed HO_151000.out) d9) (fun k_ hk=>⟨trivial,hk.2⟩))).1 k_ hk_.symm) ?aF ?aO ?aB ?aS ?aL ?_
    (case aP=>exact Kd.M_row (Kd.R_mono (Kd.R_tight rfl (Kd.R_mono (ok':=fun k_=>((fun _=>True)) k_∧some k_ ≠ (u151000:Value).ownBlock) (Kd.R_apart' (HO153.out) (Kd.S_typed HO_151000.out) d9) (fun k_ hk=>⟨trivial,hk.2⟩))) (fun _ h_=>h_)))
    (case aB=>exact (yW HB))
    (case aF=>exact (fun _ _=>trivial))
    (case aO=>exact (by refine sS ?_;exact Kd.S_mono HO_151000.out (fun k_ hk=>⟨trivial,fun e_=>hk.2 e_⟩)))
    (case aS=>exact (pz (yW HB)))
    (case aL=>have:=LMc10.out;omega)
    intro v155 w14 ho hb hg hat
    rw [← Ny154.out] at ho
    have n0_:=am (blk_grown (g:=gb149) (o:=.cells #[.slice none 0 0] 27 (0,0)) (yB BK149) hg (Kd.S_ne HO_151000.out BK149.out d9))
    have n1_:=am (blk_grown (g:=gb150) (o:=.cells #[u151000] 27 (0,0)) (yB BK150) hg (Kd.S_ne HO_151000.out BK150.out d9))
    have n2_:=am (hb)
    have n3_:=am (ho)
    clear BK149
    clear BK150
    clear HB
    clear HO_151000
    clear HO153
    have BK149:=n0_
    have BK150:=n1_
    have HB:=n2_
    have HO156:=n3_
    clear n0_ n1_ n2_ n3_
    clear ho hb hg hat
    obtain ⟨Ao16,co16,eo16⟩:=Kd.S_slice HO156.out
    (first|subst eo16|(injection eo16 with f1_ f2_ f3_;have f4_:=f1_.symm;have f5_:=f3_.symm;clear f1_ f2_ f3_;subst f4_;subst f5_))
    refine hK.out _ _ (yk BK150 0) (fun hHeld=>?_)
    clear hK K
    refine rN (a':=?_) ?_ ?_
    rotate_left
    ·show Act.put _ (some 18) _=_
     simp only [Act.put,q1,q2,q3,i64_w,i32_w]
     rfl
    refine rR ?_
    refine rL (N:=none) HT_ rfl rfl d12 d9 (fun K hK=>?_)
    have hs17:w14.cell? ⟨gb150,0,none⟩=some (u151000):=(blk_cell BK150.out 0).trans rfl
    have hfs17:=blk_frozen BK150.out 0
    have hns17_0:=NB149_150.out
    have hms17_0:=NB150_149.out
    refine skip_ (w1:=?_) d20 rfl ?_ ?_
    rotate_left
    ·go_simp
     rfl
    refine hK.out _ _ ?_
    clear hK K
    refine rD HT_ d12 ?_
    try go_wp2
    go_roundg k1
    case measure=>have:=HK1.out;omega
    case rel=>exact ⟨(wrap64 (x6_1+1)),(y154),(.slice Ao16 y154.length co16),d3,H',⟨d22⟩,⟨by refine sS ?_;exact Kd.S_mono (Kd.S_far (p:=⟨gb150,0,none⟩) (Kd.S_types HO156.out BK150.out d9) (fun _ hk=>hk.2) (.slice Ao16 y154.length co16)) (fun _ hk=>trivial)⟩,⟨yF BK149⟩,⟨by refine sB ?_;refine blk_put (cs:=#[u151000]) ?_ 0 _ rfl;exact yB BK150⟩,⟨yW HB⟩⟩
   rw [if_neg c7] at H
   have c7b0:=decide_eq_false c7
   clear c7
   obtain rfl:=Option.some.inj H
   have hnb18:=NB150_149.out
   have hnc18:=NB149_150.out
   obtain ⟨hcz19_0,hfz19_0⟩:=yk1 BK150
   obtain ⟨Ao20,co20,eo20⟩:=Kd.S_slice HO_151000.out
   subst eo20
   obtain ⟨hcz21_0,hfz21_0⟩:=yk1 BK149
   go_wp2
   refine bodyPost_ret (results_cell_row rfl _ _ gb149 27 #[.slice Ao20 x151000_1.length co20] (0,0) _ rfl (by refine sB ?_;refine blk_put (cs:=#[.slice none 0 0]) ?_ 0 _ rfl;exact yB BK149) Try.underlying27 rfl d12) rfl ?_
   exact ⟨_,d2,by refine sS ?_;exact Kd.S_mono (Kd.S_far (p:=⟨gb149,0,none⟩) (Kd.S_types HO_151000.out BK149.out d9) (fun _ hk=>hk.2) (.slice Ao20 x151000_1.length co20)) (fun _ hk=>trivial),yW HB⟩

def spec_l1Times.l0:Nat→Int→Int→Int→Option (Int)
 | 0,_,_,_=>none
 | k+1,x5,x6,x7=>if x7 > 0 then (if (Go.bits .and .i64 x7 1)=1 then (if (wrap64 (x6*2)) > 255 then (spec_l1Times.l0 k (Go.bits .xor .i64 x5 x6) (Go.bits .xor .i64 (wrap64 (x6*2)) 283) (x7 / 2)) else (spec_l1Times.l0 k (Go.bits .xor .i64 x5 x6) (wrap64 (x6*2)) (x7 / 2))) else (if (wrap64 (x6*2)) > 255 then (spec_l1Times.l0 k x5 (Go.bits .xor .i64 (wrap64 (x6*2)) 283) (x7 / 2)) else (spec_l1Times.l0 k x5 (wrap64 (x6*2)) (x7 / 2)))) else (some ((x5) % 256))
def spec_l1Times.f (k:Nat) (a0:Int) (a1:Int):Option (Int):=spec_l1Times.l0 k 0 (wrap64 (a0)) (wrap64 (a1))
theorem spec_l1Times.mono_l:∀ k,(∀ y0 y1 y2,LeO (spec_l1Times.l0 k y0 y1 y2) (spec_l1Times.l0 (k+1) y0 y1 y2))
 | 0=>fun _ _ _ r h=>by simp [spec_l1Times.l0] at h
 | k+1=>by
  have ih0:=spec_l1Times.mono_l k
  intro y0 y1 y2
  unfold spec_l1Times.l0
  exact mm
theorem spec_l1Times.mono:∀ a0 a1 k,LeO (spec_l1Times.f k a0 a1) (spec_l1Times.f (k+1) a0 a1):=by
 intro a0 a1 k
 have ih0:=spec_l1Times.mono_l k
 unfold spec_l1Times.f
 exact mm
theorem spec_l1Times.calls (k:Nat) (a0:Int) (a1:Int) (r:Int) (w:World) (h:spec_l1Times.f k a0 a1=some r) :
  Calls Try.prog 152 #[.int .u8 a0, .int .u8 a1] w fun e w'=>e = .returned (.int .u8 r)∧Drawn0 w w':=by
 have H:=h
 unfold spec_l1Times.f at H
 clear h
 have H':=am H
 clear H
 go_enter Try.func152,Try.ntmps152
 go_wp2
 go_loopg [5,6,7] k (fun kq v5 v6 v7 w'=>∃ (x5_1:Int) (x6_1:Int) (x7_1:Int),v5 = .int .i64 x5_1∧v6 = .int .i64 x6_1∧v7 = .int .i64 x7_1∧Aside0 (spec_l1Times.l0 kq x5_1 x6_1 x7_1=some r)∧Aside0 (kq≤k)∧Drawn0 w w')
 case atStart=>exact ⟨(0),(wrap64 (a0)),(wrap64 (a1)),d3,d3,d3,H',⟨Nat.le_refl _⟩,d10⟩
 case round =>
  clear H'
  try clear c1
  try clear p2
  obtain ⟨x5_1,x6_1,x7_1,rfl,rfl,rfl,HA,HK1,⟨m1,rfl⟩⟩:=hrel
  cases gk with
  | zero=>exact absurd HA.out (by simp [spec_l1Times.l0])
  | succ k1 =>
   have H:=HA.out
   clear HA
   simp only [spec_l1Times.l0] at H
   by_cases c3:x7_1 > 0
   ·rw [if_pos c3] at H
    have c3b0:decide (0 < x7_1)=true:=decide_eq_true c3
    clear c3
    by_cases c4:(Go.bits .and .i64 x7_1 1)=1
    ·rw [if_pos c4] at H
     have c4b0:((Go.bits .and .i64 x7_1 1) == 1)=true:=beq_iff_eq.mpr c4
     have c4b1:((Go.bits .and .i64 x7_1 1) != 1)=false:=bne_eq_false_iff_eq.mpr c4
     clear c4
     by_cases c5:(wrap64 (x6_1*2)) > 255
     ·rw [if_pos c5] at H
      have c5b0:decide (255 < (wrap64 (x6_1*2)))=true:=decide_eq_true c5
      clear c5
      have H':=am H
      clear H
      go_wp2
      go_roundg k1
      case measure=>have:=HK1.out;omega
      case rel=>exact ⟨(Go.bits .xor .i64 x5_1 x6_1),(Go.bits .xor .i64 (wrap64 (x6_1*2)) 283),(x7_1 / 2),d3,d3,d3,H',⟨d22⟩,d10⟩
     rw [if_neg c5] at H
     have c5b0:decide (255 < (wrap64 (x6_1*2)))=false:=decide_eq_false c5
     clear c5
     have H':=am H
     clear H
     go_wp2
     go_roundg k1
     case measure=>have:=HK1.out;omega
     case rel=>exact ⟨(Go.bits .xor .i64 x5_1 x6_1),(wrap64 (x6_1*2)),(x7_1 / 2),d3,d3,d3,H',⟨d22⟩,d10⟩
    rw [if_neg c4] at H
    have c4b0:((Go.bits .and .i64 x7_1 1) == 1)=false:=beq_eq_false_iff_ne.mpr c4
    have c4b1:((Go.bits .and .i64 x7_1 1) != 1)=true:=bne_iff_ne.mpr c4
    by_cases c6:(wrap64 (x6_1*2)) > 255
    ·rw [if_pos c6] at H
     have c6b0:decide (255 < (wrap64 (x6_1*2)))=true:=decide_eq_true c6
     clear c6
     have H':=am H
     clear H
     go_wp2
     go_roundg k1
     case measure=>have:=HK1.out;omega
     case rel=>exact ⟨(x5_1),(Go.bits .xor .i64 (wrap64 (x6_1*2)) 283),(x7_1 / 2),d3,d3,d3,H',⟨d22⟩,d10⟩
    rw [if_neg c6] at H
    have c6b0:decide (255 < (wrap64 (x6_1*2)))=false:=decide_eq_false c6
    clear c6
    have H':=am H
    clear H
    go_wp2
    go_roundg k1
    case measure=>have:=HK1.out;omega
    case rel=>exact ⟨(x5_1),(wrap64 (x6_1*2)),(x7_1 / 2),d3,d3,d3,H',⟨d22⟩,d10⟩
   rw [if_neg c3] at H
   have c3b0:decide (0 < x7_1)=false:=decide_eq_false c3
   clear c3
   obtain rfl:=Option.some.inj H
   go_wp2
   go_ret
   exact ⟨d3,d10⟩

def spec_l1Power.l0:Nat→Int→Int→Int→Option (Int)
 | 0,_,_,_=>none
 | k+1,x0,x1,x5=>if x1 > 0 then ((spec_l1Times.f k x5 x0).bind fun t157=>(spec_l1Power.l0 k x0 (wrap64 (x1 - 1)) t157)) else (some x5)
def spec_l1Power.f (k:Nat) (a0:Int) (a1:Int):Option (Int):=spec_l1Power.l0 k a0 a1 1
theorem spec_l1Power.mono_l:∀ k,(∀ y0 y1 y2,LeO (spec_l1Power.l0 k y0 y1 y2) (spec_l1Power.l0 (k+1) y0 y1 y2))
 | 0=>fun _ _ _ r h=>by simp [spec_l1Power.l0] at h
 | k+1=>by
  have ih0:=spec_l1Power.mono_l k
  intro y0 y1 y2
  unfold spec_l1Power.l0
  exact mm
theorem spec_l1Power.mono:∀ a0 a1 k,LeO (spec_l1Power.f k a0 a1) (spec_l1Power.f (k+1) a0 a1):=by
 intro a0 a1 k
 have ih0:=spec_l1Power.mono_l k
 unfold spec_l1Power.f
 exact mm
theorem spec_l1Power.calls (k:Nat) (a0:Int) (a1:Int) (r:Int) (w:World) (h:spec_l1Power.f k a0 a1=some r) :
  Calls Try.prog 138 #[.int .u8 a0, .int .i64 a1] w fun e w'=>e = .returned (.int .u8 r)∧Drawn0 w w':=by
 have H:=h
 unfold spec_l1Power.f at H
 clear h
 have H':=am H
 clear H
 go_enter Try.func138,Try.ntmps138
 go_wp2
 go_loopg [1,5] k (fun kq v1 v5 w'=>∃ (x1_1:Int) (x5_1:Int),v1 = .int .i64 x1_1∧v5 = .int .u8 x5_1∧Aside0 (spec_l1Power.l0 kq a0 x1_1 x5_1=some r)∧Aside0 (kq≤k)∧Drawn0 w w')
 case atStart=>exact ⟨(a1),(1),d3,d3,H',⟨Nat.le_refl _⟩,d10⟩
 case round =>
  clear H'
  try clear c1
  try clear p2
  obtain ⟨x1_1,x5_1,rfl,rfl,HA,HK1,⟨m1,rfl⟩⟩:=hrel
  cases gk with
  | zero=>exact absurd HA.out (by simp [spec_l1Power.l0])
  | succ k1 =>
   have H:=HA.out
   clear HA
   simp only [spec_l1Power.l0] at H
   by_cases c3:x1_1 > 0
   ·rw [if_pos c3] at H
    have c3b0:decide (0 < x1_1)=true:=decide_eq_true c3
    clear c3
    obtain ⟨t157,A4,H⟩:=yo H
    have H':=am H
    clear H
    go_wp2_with (first|((with_reducible refine gC 152 ?_);refine gM (some 12) Try.func152 (args:=#[.int .u8 x5_1, .int .u8 a0]) (spec_l1Times.calls k1 x5_1 a0 t157 _ A4.out) ?_;rintro e w' ⟨rfl,⟨nd,rfl⟩⟩;refine ⟨_,rfl,?_⟩))
    go_roundg k1
    case measure=>have:=HK1.out;omega
    case rel=>exact ⟨(wrap64 (x1_1 - 1)),(t157),d3,d3,H',⟨d22⟩,d10⟩
   rw [if_neg c3] at H
   have c3b0:decide (0 < x1_1)=false:=decide_eq_false c3
   clear c3
   obtain rfl:=Option.some.inj H
   go_wp2
   go_ret
   exact ⟨d3,d10⟩

def spec_l1Inverse.f (k:Nat) (a0:Int):Option (Int):=if a0=0 then (some 0) else ((spec_l1Power.f k a0 254).bind fun t158=>(some t158))
theorem spec_l1Inverse.mono:∀ a0 k,LeO (spec_l1Inverse.f k a0) (spec_l1Inverse.f (k+1) a0):=by
 intro a0 k
 unfold spec_l1Inverse.f
 exact mm
theorem spec_l1Inverse.calls (k:Nat) (a0:Int) (r:Int) (w:World) (h:spec_l1Inverse.f k a0=some r) :
  Calls Try.prog 137 #[.int .u8 a0] w fun e w'=>e = .returned (.int .u8 r)∧Drawn0 w w':=by
 have H:=h
 unfold spec_l1Inverse.f at H
 clear h
 by_cases c2:a0=0
 ·rw [if_pos c2] at H
  have c2b0:(a0 == 0)=true:=beq_iff_eq.mpr c2
  have c2b1:(a0 != 0)=false:=bne_eq_false_iff_eq.mpr c2
  clear c2
  obtain rfl:=Option.some.inj H
  go_enter Try.func137,Try.ntmps137
  go_wp2
  go_ret
  exact ⟨d3,d10⟩
 rw [if_neg c2] at H
 have c2b0:(a0 == 0)=false:=beq_eq_false_iff_ne.mpr c2
 have c2b1:(a0 != 0)=true:=bne_iff_ne.mpr c2
 obtain ⟨t158,A3,H⟩:=yo H
 obtain rfl:=Option.some.inj H
 go_enter Try.func137,Try.ntmps137
 go_wp2_with (first|((with_reducible refine gC 138 ?_);refine gM (some 6) Try.func138 (args:=#[.int .u8 a0, .int .i64 254]) (spec_l1Power.calls k a0 254 t158 _ A3.out) ?_;rintro e w' ⟨rfl,⟨nd,rfl⟩⟩;refine ⟨_,rfl,?_⟩))
 go_ret
 exact ⟨d3,d10⟩
mutual
def spec_l2Cauchy.l0:Nat→Int→Int→Int→List (List Int)→Option ((List (List Int)))
 | 0,_,_,_,_=>none
 | k+1,x1,x13,x14,x164000=>if x14 < x13 then (if 0≤x14 then (if x14 < (x164000.length:Int) then (spec_l2Cauchy.l1 k x1 x14 x13 x14 ((rd_L1 x164000 x14).length:Int) 0 x164000) else (none)) else (none)) else (some x164000)
def spec_l2Cauchy.l1:Nat→Int→Int→Int→Int→Int→Int→List (List Int)→Option ((List (List Int)))
 | 0,_,_,_,_,_,_,_=>none
 | k+1,x1,x6,x13,x14,x22,x23,x164000=>if x23 < x22 then (if 0≤x6 then (if x6 < (x164000.length:Int) then ((spec_l1Inverse.f k ((Go.bits .xor .i64 (wrap64 (x1+x6)) x23) % 256)).bind fun t166=>(if 0≤x23 then (if x23 < ((rd_L1 x164000 x6).length:Int) then (spec_l2Cauchy.l1 k x1 x6 x13 x14 x22 (wrap64 (x23+1)) (x164000.set (x6:Int).toNat ((rd_L1 x164000 x6).set (x23:Int).toNat t166))) else (none)) else (none))) else (none)) else (none)) else (spec_l2Cauchy.l0 k x1 x13 (wrap64 (x14+1)) x164000)
end
def spec_l2Cauchy.f (k:Nat) (a0:Int) (a1:Int):Option ((List (List Int))):=(spec_l2Blank.f k a0 a1).bind fun t160=>(spec_l2Cauchy.l0 k a1 (t160.length:Int) 0 t160)
theorem spec_l2Cauchy.mono_l:∀ k,(∀ y0 y1 y2 y3,LeO (spec_l2Cauchy.l0 k y0 y1 y2 y3) (spec_l2Cauchy.l0 (k+1) y0 y1 y2 y3))∧(∀ y0 y1 y2 y3 y4 y5 y6,LeO (spec_l2Cauchy.l1 k y0 y1 y2 y3 y4 y5 y6) (spec_l2Cauchy.l1 (k+1) y0 y1 y2 y3 y4 y5 y6))
 | 0=>⟨fun _ _ _ _ r h=>by simp [spec_l2Cauchy.l0] at h,fun _ _ _ _ _ _ _ r h=>by simp [spec_l2Cauchy.l1] at h⟩
 | k+1=>by
  obtain ⟨ih0,ih1⟩:=spec_l2Cauchy.mono_l k
  refine ⟨?_,?_⟩
  ·intro y0 y1 y2 y3
   unfold spec_l2Cauchy.l0
   exact mm
  intro y0 y1 y2 y3 y4 y5 y6
  unfold spec_l2Cauchy.l1
  exact mm
theorem spec_l2Cauchy.mono:∀ a0 a1 k,LeO (spec_l2Cauchy.f k a0 a1) (spec_l2Cauchy.f (k+1) a0 a1):=by
 intro a0 a1 k
 obtain ⟨ih0,ih1⟩:=spec_l2Cauchy.mono_l k
 unfold spec_l2Cauchy.f
 exact mm
def spec_l2Cauchy.T8:Bool × List (List Nat × List Nat):=(true,[([],[]),([0],[0]),([],[]),([1,2],[1,2]),([3],[3]),([],[]),([],[]),([],[]),([6,7],[6,7]),([],[]),([8,9],[8,9]),([10],[10]),([11],[11]),([4,5,0,1,2,3,4,5,6,7,8,9,10,11,12],[4,5]),([13,12,12,0,1,2,3,4,5,6,7,8,9,10,11,12],[12,13])])
def spec_l2Cauchy.B8:List Nat:=[0,1,0,7,15,0,0,0,192,0,960,1984,4032,8191,16383]
theorem spec_l2Cauchy.tab8:rtab .any (opsOf Try.f85 8)=spec_l2Cauchy.T8:=by kernel_rfl
theorem spec_l2Cauchy.bits8:waitsOk spec_l2Cauchy.T8.2 spec_l2Cauchy.B8=true:=by kernel_rfl
theorem spec_l2Cauchy.calls (k:Nat) (a0:Int) (a1:Int) (r:List (List Int)) (w:World) (h:spec_l2Cauchy.f k a0 a1=some r) :
  Calls Try.prog 85 #[.int .i64 a0, .int .i64 a1] w fun e w'=>∃ v0_:Value,e = .returned (.agg #[v0_])∧Kd.S (Kd.slice 5 (Kd.int .u8)) 24 w' w.heap.size (fun _=>True) v0_ r∧Below w.heap.size w w':=by
 have hu27:=Try.underlying27
 have HB:=am (Below.refl w.heap.size w)
 have H:=h
 unfold spec_l2Cauchy.f at H
 clear h
 obtain ⟨t160,A3,H⟩:=yo H
 have H':=am H
 clear H
 go_enter Try.func85,Try.ntmps85
 go_wp2_with (first|((with_reducible refine gD 4 ?_);refine gB (cs:=#[.slice none 0 0]) 27 ?_;intro gb159 hg w4 hbox hb;have BK159:=am (hbox);have GW159:=ye HB hg;replace HB:=yH HB hb;have GE159:=GW159;clear hb hbox hg)|((with_reducible refine gC 124 ?_);refine gM (some 10) Try.func124 (args:=#[.int .i64 a0, .int .i64 a1]) (spec_l2Blank.calls k a0 a1 t160 _ A3.out) ?_;rintro e w5 ⟨v161,rfl,ho0,hb⟩;refine ⟨_,rfl,?_⟩;have HO162:=am (Kd.S_lower ho0 (pz (yW HB)));replace BK159:=yb BK159 hb;replace HB:=yH HB hb;clear hb ho0)|((with_reducible refine gD 5 ?_);refine gB (cs:=#[.slice none 0 0]) 27 ?_;intro gb163 hg w6 hbox hb;replace HO162:=bS HO162 hb;have BK163:=am (hbox);have GW163:=ye HB hg;replace HB:=yH HB hb;have NB159_163:=yl BK159 hg;have NB163_159:=yg BK159 hg;replace BK159:=yb BK159 hb;have GE163:=GW163;clear hb hbox hg;obtain ⟨Ao7,co7,eo7⟩:=Kd.S_slice HO162.out;subst eo7;have hnb8:=NB163_159.out;have hnc8:=NB159_163.out;obtain ⟨hcz9_0,hfz9_0⟩:=yk1 BK163))
 go_loopg [14] k (fun kq v14 w'=>∃ (x14_1:Int) (x164000_1:List (List Int)) (u164000:Value),v14 = .int .i64 x14_1∧Aside0 (spec_l2Cauchy.l0 kq a1 (t160.length:Int) x14_1 x164000_1=some r)∧Aside0 (kq≤k)∧Aside0 (Kd.S (Kd.slice 5 (Kd.int .u8)) 24 w' w.heap.size (fun _=>True) u164000 x164000_1)∧Aside0 (w'.heap[gb159]? = some (.cells #[(.slice none 0 0)] 27 (0,0)))∧Aside0 (w'.heap[gb163]? = some (.cells #[u164000] 27 (0,0)))∧Aside0 (Below w.heap.size w w'))
 case atStart=>exact ⟨(0),(t160),(.slice Ao7 t160.length co7),d3,H',⟨Nat.le_refl _⟩,⟨by refine sS ?_;exact Kd.S_mono (Kd.S_far (p:=⟨gb163,0,none⟩) (Kd.S_types HO162.out BK163.out d9) (fun _ hk=>hk.2) (.slice Ao7 t160.length co7)) (fun _ hk=>trivial)⟩,⟨yF BK159⟩,⟨by refine sB ?_;refine blk_put (cs:=#[.slice none 0 0]) ?_ 0 _ rfl;exact yB BK163⟩,⟨yW HB⟩⟩
 case round =>
  clear H'
  try clear c1
  try clear p2
  try clear c8
  try clear hcz9_0
  try clear hfz9_0
  obtain ⟨x14_1,x164000_1,u164000,rfl,HA,HK1,HO_164000,BK159,BK163,HB⟩:=hrel
  cases gk with
  | zero=>exact absurd HA.out (by simp [spec_l2Cauchy.l0])
  | succ k1 =>
   have H:=HA.out
   clear HA
   simp only [spec_l2Cauchy.l0] at H
   by_cases c10:x14_1 < (t160.length:Int)
   ·rw [if_pos c10] at H
    have c10b0:=decide_eq_true c10
    clear c10
    obtain ⟨c11,H⟩:=yi H
    have c11b0:=decide_eq_true c11
    clear c11
    obtain ⟨c12,H⟩:=yi H
    have c12b0:=decide_eq_true c12
    clear c12
    have H':=am H
    clear H
    have hnb13:=NB163_159.out
    have hnc13:=NB159_163.out
    obtain ⟨hcz14_0,hfz14_0⟩:=yk1 BK163
    obtain ⟨Ao15,co15,eo15⟩:=Kd.S_slice HO_164000.out
    subst eo15
    have p164:0≤(x14_1:Int):=od d1
    have q164:x14_1 < (x164000_1.length:Int):=od d1
    obtain ⟨ad164,A164_0,c164_0,e164,hx164_0,hl164_0,hi164_0⟩:=at_L1 (Kd.S_reads' HO_164000.out).2.2 x14_1 p164 q164
    cases e164
    obtain ⟨ce164,hce164,hMe164,hcc164⟩:=Kd.S_get HO_164000.out [] x14_1 p164 (by first|exact q164|exact od d1|(have e_:=(Kd.S_reads' HO_164000.out).1;omega))
    obtain ⟨ve164_0,rfl,ge164_0⟩:=hMe164
    have hv164_0:=hcc164 0 _ rfl
    rw [Nat.add_zero,show ((Kd.slice 5 (Kd.int .u8))).sz=1 from rfl,Nat.mul_one] at hv164_0
    replace hv164_0:=Option.some.inj (hv164_0.symm.trans hx164_0)
    rw [hv164_0] at ge164_0
    have HL164_0:=am (show Kd.R (Kd.int .u8) 5 _ _ _ _ (rd_L1 x164000_1 x14_1) from ge164_0)
    clear hv164_0 ge164_0
    have HX164_0:=am hx164_0
    clear hcc164 hce164
    have HR164_0:=am hi164_0
    have HC164_0:=am hl164_0
    clear hi164_0 hl164_0
    replace p164:=eq_true p164
    replace q164:=eq_true q164
    go_wp2
    go_loopg [23] k1 (fun kq v23 w'=>∃ (x23_2:Int) (x164000_2:List (List Int)) (u164000:Value),v23 = .int .i64 x23_2∧Aside0 (spec_l2Cauchy.l1 kq a1 x14_1 (t160.length:Int) x14_1 ((rd_L1 x164000_1 x14_1).length:Int) x23_2 x164000_2=some r)∧Aside0 (kq≤k1)∧Aside0 (Kd.S (Kd.slice 5 (Kd.int .u8)) 24 w' w.heap.size (fun _=>True) u164000 x164000_2)∧Aside0 (w'.heap[gb159]? = some (.cells #[(.slice none 0 0)] 27 (0,0)))∧Aside0 (w'.heap[gb163]? = some (.cells #[u164000] 27 (0,0)))∧Aside0 (Below w.heap.size w w'))
    case atStart=>exact ⟨(0),(x164000_1),(.slice (some ad164) x164000_1.length co15),d3,H',⟨Nat.le_refl _⟩,⟨yS HO_164000⟩,⟨yB BK159⟩,⟨yB BK163⟩,⟨yW HB⟩⟩
    case round =>
     clear H'
     try clear c1
     try clear p1
     try clear q1
     try clear hx1
     try clear p2
     try clear c8
     try clear c10
     try clear c10b0
     try clear c11
     try clear c11b0
     try clear c12
     try clear c12b0
     try clear c13
     try clear hcz14_0
     try clear hcz9_0
     try clear hfz14_0
     try clear hfz9_0
     try clear hx164_0
     try clear p164
     try clear p2
     try clear q164
     obtain ⟨x23_2,x164000_2,u164000,rfl,HA,HK2,HO_164000,BK159,BK163,HB⟩:=hrel
     cases gk with
     | zero=>exact absurd HA.out (by simp [spec_l2Cauchy.l1])
     | succ k2 =>
      have H:=HA.out
      clear HA
      simp only [spec_l2Cauchy.l1] at H
      by_cases c16:x23_2 < ((rd_L1 x164000_1 x14_1).length:Int)
      ·rw [if_pos c16] at H
       have c16b0:=decide_eq_true c16
       clear c16
       obtain ⟨c17,H⟩:=yi H
       have c17b0:=decide_eq_true c17
       clear c17
       obtain ⟨c18,H⟩:=yi H
       have c18b0:=decide_eq_true c18
       clear c18
       obtain ⟨t166,A19,H⟩:=yo H
       obtain ⟨c20,H⟩:=yi H
       have c20b0:=decide_eq_true c20
       clear c20
       obtain ⟨c21,H⟩:=yi H
       have c21b0:=decide_eq_true c21
       clear c21
       generalize hy167:((rd_L1 x164000_2 x14_1).set (x23_2:Int).toNat t166:List Int)=y167 at H
       have Ny167:=am hy167.symm
       clear hy167
       generalize hy169:(x164000_2.set (x14_1:Int).toNat y167:List (List Int))=y169 at H
       have Ny169:=am hy169.symm
       clear hy169
       have H':=am H
       clear H
       try go_wp2
       replace HO_164000:=am (Kd.S_drew HO_164000.out)
       replace BK159:=am (qd BK159.out)
       replace BK163:=am (qd BK163.out)
       replace HB:=am (pd HB.out)
       obtain ⟨Ao24,co24,eo24⟩:=Kd.S_slice HO_164000.out
       (first|subst eo24|(injection eo24 with f1_ f2_ f3_;have f4_:=f1_.symm;have f5_:=f3_.symm;clear f1_ f2_ f3_;subst f4_;subst f5_))
       have p165:0≤(x14_1:Int):=od d1
       have q165:x14_1 < (x164000_2.length:Int):=od d1
       obtain ⟨ad165,A165_0,c165_0,e165,hx165_0,hl165_0,hi165_0⟩:=at_L1 (Kd.S_reads' HO_164000.out).2.2 x14_1 p165 q165
       cases e165
       obtain ⟨ce165,hce165,hMe165,hcc165⟩:=Kd.S_get HO_164000.out [] x14_1 p165 (by first|exact q165|exact od d1|(have e_:=(Kd.S_reads' HO_164000.out).1;omega))
       obtain ⟨ve165_0,rfl,ge165_0⟩:=hMe165
       have hv165_0:=hcc165 0 _ rfl
       rw [Nat.add_zero,show ((Kd.slice 5 (Kd.int .u8))).sz=1 from rfl,Nat.mul_one] at hv165_0
       replace hv165_0:=Option.some.inj (hv165_0.symm.trans hx165_0)
       rw [hv165_0] at ge165_0
       have HL165_0:=am (show Kd.R (Kd.int .u8) 5 _ _ _ _ (rd_L1 x164000_2 x14_1) from ge165_0)
       clear hv165_0 ge165_0
       have HX165_0:=am hx165_0
       clear hcc165 hce165
       have HR165_0:=am hi165_0
       have HC165_0:=am hl165_0
       clear hi165_0 hl165_0
       replace p165:=eq_true p165
       replace q165:=eq_true q165
       refine rS (n:=15) (S:=fun w'=>w'.cell? ⟨gb163,0,none⟩=some (.slice (some ad165) x164000_2.length co24)∧w'.cell? (ad165.add (x14_1).toNat)=some (.slice A165_0 (rd_L1 x164000_2 x14_1).length c165_0)) (ds:=[14]) [(0,26),(2,28),(5,31),(6,32),(7,33),(8,34),(9,35),(10,36),(11,37),(1,27),(3,29),(4,30),(12,0),(13,39),(14,0)] d12 rfl spec_l2Cauchy.tab8 spec_l2Cauchy.bits8 ⟨yk BK163 0,hx165_0⟩ (fun hHeld HT_ HW_=>?_)
       generalize wr.drew=w23 at HO_164000 BK159 BK163 HB HL165_0 HR165_0 HX165_0 hx165_0 hHeld ⊢
       refine rR ?_
       refine rO (N:=some 38) HT_ rfl rfl d12 d9 (fun K hK=>?_)
       refine goes_ Try.func137 d12 rfl #[.int .u8 ((Go.bits .xor .i64 (wrap64 (a1+x14_1)) x23_2) % 256)] d20 rfl rfl d18 ?_
       with_reducible refine (spec_l1Inverse.calls k2 ((Go.bits .xor .i64 (wrap64 (a1+x14_1)) x23_2) % 256) t166 _ A19.out).mono ?_
       rintro e w' ⟨rfl,⟨nd,rfl⟩⟩
       refine ⟨_,rfl,?_⟩
       have p22:0≤(x23_2:Int):=od d1
       have q22:(x23_2:Int) < (((rd_L1 x164000_2 x14_1).length:Int):Int):=od d1
       obtain ⟨go22,co22,eo22,gb22,gl22,cl22,HG22⟩:=Kd.R_form HL165_0.out d13
       (first|cases eo22|(injection eo22 with ea_ en_ ec_;(first|subst ea_|(injection ea_ with ea_;subst ea_));subst ec_;clear en_))
       have GB22:=am gb22
       have GG22:=am HG22
       clear gb22 gl22 HG22
       obtain ⟨hx22_0,hf22_0⟩:=Kd.R_celln 0 HL165_0.out (x23_2:Int) p22 q22
       replace p22:=eq_true p22
       replace q22:=eq_true q22
       have hq25:(x14_1:Int) < (x164000_2.length:Int):=(by have h_:(x14_1:Int) < ((x164000_2.length:Int):Int):=od d1;first|exact h_|(have e_:=(Kd.S_reads' HO_164000.out).1;omega)|simpa only [List.length_set,List.length_set] using h_)
       obtain ⟨oki25,ce25,hcl25,hM25,hcc25,hok25,hbk25⟩:=Kd.S_borrow HO_164000.out [] (x14_1:Int) (od d1) hq25
       obtain ⟨ve25_0,rfl,ge25_0⟩:=hM25
       have hv25:=hcc25 0 _ rfl
       rw [Nat.add_zero,show ((Kd.slice 5 (Kd.int .u8))).sz=1 from rfl,Nat.mul_one] at hv25
       replace hv25:=Option.some.inj (hv25.symm.trans HX165_0.out)
       subst hv25
       clear hcc25 hcl25
       replace ge25_0:=(show Kd.R (Kd.int .u8) 5 _ _ _ _ (rd_L1 x164000_2 x14_1) from ge25_0)
       have HP25:=Kd.R_putg ge25_0 (x23_2:Int) t166
       rw [← Ny167.out] at HP25
       have HS25:=hbk25 HP25.2 (fun k_ e_=>by injection e_ with e_;subst e_;exact ge25_0.1 _ rfl) (x':=y167) (Kd.M_row HP25.1)
       rw [← Ny169.out] at HS25
       have HQ25:=am HS25
       clear HP25 HS25 hbk25 hok25
       refine hK.out _ _ ⟨yk BK163 0,hHeld.2⟩ (fun hHeld=>?_)
       clear hK K
       refine rN (a':=?_) ?_ ?_
       rotate_left
       ·show Act.put _ (some 38) _=_
        simp only [Act.put,q1,q2,q3,i64_w,i32_w]
        rfl
       refine rR ?_
       refine rL (N:=none) HT_ rfl rfl d12 d9 (fun K hK=>?_)
       refine skip_ (w1:=?_) d20 rfl ?_ ?_
       rotate_left
       ·go_simp
        rfl
       refine hK.out _ _ ?_
       clear hK K
       refine rD HT_ d12 ?_
       try go_wp2
       go_roundg k2
       case measure=>have:=HK1.out;have:=HK2.out;omega
       case rel=>exact ⟨(wrap64 (x23_2+1)),(y169),(.slice (some ad165) x164000_2.length co24),d3,H',⟨d52⟩,⟨yS HQ25⟩,⟨by refine sB ?_;refine blk_far ?_ (by have h_:=Kd.R_ne HL165_0.out BK159.out d9;intro e_;exact h_ (by rw [e_];rfl)) _;exact yB BK159⟩,⟨by refine sB ?_;refine blk_far ?_ (by have h_:=Kd.R_ne HL165_0.out BK163.out d9;intro e_;exact h_ (by rw [e_];rfl)) _;exact yB BK163⟩,⟨by repeat (first|(with_reducible first|exact HB.out|apply pa|apply pb|apply pd|refine pt ?_ GB22.out|refine pt ?_ GE159.out|refine pt ?_ GE163.out)|exact HB.out)⟩⟩
      rw [if_neg c16] at H
      have c16b0:=decide_eq_false c16
      clear c16
      have H':=am H
      clear H
      go_wp2
      go_roundg k2
      case measure=>have:=HK1.out;have:=HK2.out;omega
      case rel=>exact ⟨(wrap64 (x14_1+1)),(x164000_2),(u164000),d3,H',⟨d52⟩,⟨yS HO_164000⟩,⟨yB BK159⟩,⟨yB BK163⟩,⟨yW HB⟩⟩
   rw [if_neg c10] at H
   have c10b0:=decide_eq_false c10
   clear c10
   obtain rfl:=Option.some.inj H
   have hnb27:=NB163_159.out
   have hnc27:=NB159_163.out
   obtain ⟨hcz28_0,hfz28_0⟩:=yk1 BK163
   obtain ⟨Ao29,co29,eo29⟩:=Kd.S_slice HO_164000.out
   subst eo29
   obtain ⟨hcz30_0,hfz30_0⟩:=yk1 BK159
   go_wp2
   refine bodyPost_ret (results_cell_row rfl _ _ gb159 27 #[.slice Ao29 x164000_1.length co29] (0,0) _ rfl (by refine sB ?_;refine blk_put (cs:=#[.slice none 0 0]) ?_ 0 _ rfl;exact yB BK159) Try.underlying27 rfl d12) rfl ?_
   exact ⟨_,d2,by refine sS ?_;exact Kd.S_mono (Kd.S_far (p:=⟨gb159,0,none⟩) (Kd.S_types HO_164000.out BK159.out d9) (fun _ hk=>hk.2) (.slice Ao29 x164000_1.length co29)) (fun _ hk=>trivial),yW HB⟩

def spec_Cauchy.f (k:Nat) (a0:Int) (a1:Int):Option ((List (List Int)) × Bool):=(spec_l1In.f a0 1 16).bind fun t171=>(if t171=true then ((spec_l1In.f a1 1 16).bind fun t172=>(if t172=true then ((spec_l2Cauchy.f k a0 a1).bind fun t173=>(some (t173,true))) else (some (([]:List (List Int)),false)))) else (some (([]:List (List Int)),false)))
theorem spec_Cauchy.mono:∀ a0 a1 k,LeO (spec_Cauchy.f k a0 a1) (spec_Cauchy.f (k+1) a0 a1):=by
 intro a0 a1 k
 unfold spec_Cauchy.f
 exact mm
theorem spec_Cauchy.calls (k:Nat) (a0:Int) (a1:Int) (r1:List (List Int)) (r2:Bool) (w:World) (h:spec_Cauchy.f k a0 a1=some (r1,r2)) :
  Calls Try.prog 32 #[.int .i64 a0, .int .i64 a1] w fun e w'=>∃ v0_:Value,e = .returned (.tuple #[.agg #[v0_], .bool r2])∧Kd.S (Kd.slice 5 (Kd.int .u8)) 24 w' w.heap.size (fun _=>True) v0_ r1∧Below w.heap.size w w':=by
 have hu27:=Try.underlying27
 have HB:=am (Below.refl w.heap.size w)
 have H:=h
 unfold spec_Cauchy.f at H
 clear h
 obtain ⟨t171,A3,H⟩:=yo H
 by_cases c4:t171=true
 ·subst c4
  replace H:=yt H
  obtain ⟨t172,A5,H⟩:=yo H
  by_cases c6:t172=true
  ·subst c6
   replace H:=yt H
   obtain ⟨t173,A7,H⟩:=yo H
   simp only [Option.some.injEq,Prod.mk.injEq] at H
   obtain ⟨rfl,rfl⟩:=H
   go_enter Try.func32,Try.ntmps32
   go_wp2_with (first|((with_reducible refine gD 4 ?_);refine gB (cs:=#[.slice none 0 0]) 27 ?_;intro gb170 hg w8 hbox hb;have BK170:=am (hbox);have GW170:=ye HB hg;replace HB:=yH HB hb;have GE170:=GW170;clear hb hbox hg)|((with_reducible refine gC 84 ?_);refine gM (some 7) Try.func84 (args:=#[.int .i64 a0, .int .i64 1, .int .i64 16]) (spec_l1In.calls a0 1 16 true _ A3.out) ?_;rintro e w' ⟨rfl,⟨nd,rfl⟩⟩;refine ⟨_,rfl,?_⟩;(try (rw [drewN_self w8];generalize hq_:World.drewN w8 _=w8;have n0_:Aside0 (w8.heap[gb170]? = some (.cells #[.slice none 0 0] 27 (0,0))):=⟨d106⟩;have n1_:Aside0 (Below w.heap.size w w8):=⟨d19⟩;clear BK170 HB hq_;have BK170:=n0_;have HB:=n1_;clear n0_ n1_)))|(go_at_call 84;(with_reducible refine (spec_l1In.calls a1 1 16 true _ A5.out).mono ?_);rintro e w' ⟨rfl,⟨nd,rfl⟩⟩;(try (rw [drewN_self w8];generalize hq_:World.drewN w8 _=w8;have n0_:Aside0 (w8.heap[gb170]? = some (.cells #[.slice none 0 0] 27 (0,0))):=⟨d106⟩;have n1_:Aside0 (Below w.heap.size w w8):=⟨d19⟩;clear BK170 HB hq_;have BK170:=n0_;have HB:=n1_;clear n0_ n1_)))|((with_reducible refine gC 85 ?_);refine gM (some 17) Try.func85 (args:=#[.int .i64 a0, .int .i64 a1]) (spec_l2Cauchy.calls k a0 a1 t173 _ A7.out) ?_;rintro e w9 ⟨v174,rfl,ho0,hb⟩;refine ⟨_,rfl,?_⟩;have HO175:=am (Kd.S_lower ho0 (pz (yW HB)));replace BK170:=yb BK170 hb;replace HB:=yH HB hb;clear hb ho0;obtain ⟨Ao10,co10,eo10⟩:=Kd.S_slice HO175.out;subst eo10;obtain ⟨hcz11_0,hfz11_0⟩:=yk1 BK170))
   refine bodyPost_ret (results_ct rfl _ _ gb170 27 #[.slice Ao10 t173.length co10] (0,0) _ rfl d100 Try.underlying27 rfl d12) rfl ?_
   exact ⟨_,d2,by refine sS ?_;exact Kd.S_mono (Kd.S_far (p:=⟨gb170,0,none⟩) (Kd.S_types HO175.out BK170.out d9) (fun _ hk=>hk.2) (.slice Ao10 t173.length co10)) (fun _ hk=>trivial),yW HB⟩
  replace c6:=Bool.eq_false_iff.mpr c6
  subst c6
  replace H:=yn H
  simp only [Option.some.injEq,Prod.mk.injEq] at H
  obtain ⟨rfl,rfl⟩:=H
  go_enter Try.func32,Try.ntmps32
  go_wp2_with (first|((with_reducible refine gD 4 ?_);refine gB (cs:=#[.slice none 0 0]) 27 ?_;intro gb170 hg w12 hbox hb;have BK170:=am (hbox);have GW170:=ye HB hg;replace HB:=yH HB hb;have GE170:=GW170;clear hb hbox hg)|((with_reducible refine gC 84 ?_);refine gM (some 7) Try.func84 (args:=#[.int .i64 a0, .int .i64 1, .int .i64 16]) (spec_l1In.calls a0 1 16 true _ A3.out) ?_;rintro e w' ⟨rfl,⟨nd,rfl⟩⟩;refine ⟨_,rfl,?_⟩;(try (rw [drewN_self w12];generalize hq_:World.drewN w12 _=w12;have n0_:Aside0 (w12.heap[gb170]? = some (.cells #[.slice none 0 0] 27 (0,0))):=⟨d106⟩;have n1_:Aside0 (Below w.heap.size w w12):=⟨d19⟩;clear BK170 HB hq_;have BK170:=n0_;have HB:=n1_;clear n0_ n1_)))|(go_at_call 84;(with_reducible refine (spec_l1In.calls a1 1 16 false _ A5.out).mono ?_);rintro e w' ⟨rfl,⟨nd,rfl⟩⟩;(try (rw [drewN_self w12];generalize hq_:World.drewN w12 _=w12;have n0_:Aside0 (w12.heap[gb170]? = some (.cells #[.slice none 0 0] 27 (0,0))):=⟨d106⟩;have n1_:Aside0 (Below w.heap.size w w12):=⟨d19⟩;clear BK170 HB hq_;have BK170:=n0_;have HB:=n1_;clear n0_ n1_));obtain ⟨hcz13_0,hfz13_0⟩:=yk1 BK170))
  refine bodyPost_ret (results_ct rfl _ _ gb170 27 #[.slice none 0 0] (0,0) _ rfl d100 Try.underlying27 rfl d12) rfl ?_
  exact ⟨_,d2,d11,yW HB⟩
 replace c4:=Bool.eq_false_iff.mpr c4
 subst c4
 replace H:=yn H
 simp only [Option.some.injEq,Prod.mk.injEq] at H
 obtain ⟨rfl,rfl⟩:=H
 go_enter Try.func32,Try.ntmps32
 go_wp2_with (first|((with_reducible refine gD 4 ?_);refine gB (cs:=#[.slice none 0 0]) 27 ?_;intro gb170 hg w14 hbox hb;have BK170:=am (hbox);have GW170:=ye HB hg;replace HB:=yH HB hb;have GE170:=GW170;clear hb hbox hg)|((with_reducible refine gC 84 ?_);refine gM (some 7) Try.func84 (args:=#[.int .i64 a0, .int .i64 1, .int .i64 16]) (spec_l1In.calls a0 1 16 false _ A3.out) ?_;rintro e w' ⟨rfl,⟨nd,rfl⟩⟩;refine ⟨_,rfl,?_⟩;(try (rw [drewN_self w14];generalize hq_:World.drewN w14 _=w14;have n0_:Aside0 (w14.heap[gb170]? = some (.cells #[.slice none 0 0] 27 (0,0))):=⟨d106⟩;have n1_:Aside0 (Below w.heap.size w w14):=⟨d19⟩;clear BK170 HB hq_;have BK170:=n0_;have HB:=n1_;clear n0_ n1_));obtain ⟨hcz15_0,hfz15_0⟩:=yk1 BK170))
 refine bodyPost_ret (results_ct rfl _ _ gb170 27 #[.slice none 0 0] (0,0) _ rfl d100 Try.underlying27 rfl d12) rfl ?_
 exact ⟨_,d2,d11,yW HB⟩

def impl_vanRows.E (k:Nat) (i j:Int):Option Int:=impl_power.f k (i % 256) j
theorem impl_vanRows.mono_E:∀ i j k,LeO (impl_vanRows.E k i j) (impl_vanRows.E (k+1) i j):=fun i j k=>impl_power.mono _ _ _
def impl_vanRows.f (k:Nat) (a0:Int) (a1:Int):Option ((List (List Int))):=impl_filled.f impl_vanRows.E k a0 a1
theorem impl_vanRows.mono:∀ a0 a1 k,LeO (impl_vanRows.f k a0 a1) (impl_vanRows.f (k+1) a0 a1):=fun a0 a1 k=>impl_filled.mono _ impl_vanRows.mono_E a0 a1 k
set_option maxHeartbeats 4000000 in
theorem impl_vanRows.elem (k:Nat) (i j t:Int) (W:World) (h:impl_vanRows.E k i j=some t) :
  Calls Try.prog 87 #[.int .i64 i, .int .i64 j] W fun e w'=>e = .returned (.int .u8 t)∧Drawn0 W w':=by
 have HX:=am h
 clear h
 go_enter Try.func87,Try.ntmps87
 go_wp2_with fail
 refine (impl_power.calls k (i % 256) j t _ HX.out).mono ?_
 rintro e w' ⟨rfl,⟨q,rfl⟩⟩
 go_wp2
 go_ret
 exact ⟨rfl,⟨_,rfl⟩⟩
theorem impl_vanRows.calls (k:Nat) (a0:Int) (a1:Int) (r:List (List Int)) (w:World) (h:impl_vanRows.f k a0 a1=some r) :
  Calls Try.prog 86 #[.int .i64 a0, .int .i64 a1, .func (.func 87) #[] #[]] w fun e w'=>∃ v0_:Value,e = .returned (v0_)∧Kd.S (Kd.slice 5 (Kd.int .u8)) 24 w' w.heap.size (fun _=>True) v0_ r∧Below w.heap.size w w' :=
 impl_filled.calls impl_vanRows.E 87 (enters_of Try.func87 rfl rfl) #[] k a0 a1 r w (fun k i j t W _ hE=>impl_vanRows.elem k i j t W hE) h
def impl_Vandermonde.f (k:Nat) (a0:Int) (a1:Int):Option ((List (List Int)) × Bool):=(impl_areSides.f a0 a1).bind fun t147=>(if t147=true then ((impl_vanRows.f k a0 a1).bind fun t148=>(some (t148,true))) else (some (([]:List (List Int)),false)))
theorem impl_Vandermonde.mono:∀ a0 a1 k,LeO (impl_Vandermonde.f k a0 a1) (impl_Vandermonde.f (k+1) a0 a1):=by
 intro a0 a1 k
 unfold impl_Vandermonde.f
 exact mm
theorem impl_Vandermonde.calls (k:Nat) (a0:Int) (a1:Int) (r1:List (List Int)) (r2:Bool) (w:World) (h:impl_Vandermonde.f k a0 a1=some (r1,r2)) :
  Calls Try.prog 33 #[.int .i64 a0, .int .i64 a1] w fun e w'=>∃ v0_:Value,e = .returned (.tuple #[.agg #[v0_], .bool r2])∧Kd.S (Kd.slice 5 (Kd.int .u8)) 24 w' w.heap.size (fun _=>True) v0_ r1∧Below w.heap.size w w':=by
 have hu24:=Try.underlying27
 have HB:=am (Below.refl w.heap.size w)
 have H:=h
 unfold impl_Vandermonde.f at H
 clear h
 obtain ⟨t147,A3,H⟩:=yo H
 by_cases c4:t147=true
 ·subst c4
  replace H:=yt H
  obtain ⟨t148,A5,H⟩:=yo H
  simp only [Option.some.injEq,Prod.mk.injEq] at H
  obtain ⟨rfl,rfl⟩:=H
  go_enter Try.func33,Try.ntmps33
  go_wp2_with (first|((with_reducible refine gD 4 ?_);refine gB (cs:=#[.slice none 0 0]) 27 ?_;intro gb146 hg w6 hbox hb;have BK146:=am (hbox);have GW146:=ye HB hg;replace HB:=yH HB hb;have GE146:=GW146;clear hb hbox hg)|((with_reducible refine gC 82 ?_);refine gM (some 8) Try.func82 (args:=#[.int .i64 a0, .int .i64 a1]) (impl_areSides.calls a0 a1 true _ A3.out) ?_;rintro e w' ⟨rfl,⟨nd,rfl⟩⟩;refine ⟨_,rfl,?_⟩;(try (rw [drewN_self w6];generalize hq_:World.drewN w6 _=w6;have n0_:Aside0 (w6.heap[gb146]? = some (.cells #[.slice none 0 0] 27 (0,0))):=⟨by rw [← hq_];exact (yB BK146)⟩;have n1_:Aside0 (Below w.heap.size w w6):=⟨d19⟩;clear BK146 HB hq_;have BK146:=n0_;have HB:=n1_;clear n0_ n1_)))|((with_reducible refine gC 86 ?_);refine gM (some 13) Try.func86 (args:=#[.int .i64 a0, .int .i64 a1, .func (.func 87) #[] #[]]) (impl_vanRows.calls k a0 a1 t148 _ A5.out) ?_;rintro e w7 ⟨v149,rfl,ho0,hb⟩;refine ⟨_,rfl,?_⟩;have HO150:=am (Kd.S_lower ho0 (pz (yW HB)));replace BK146:=yb BK146 hb;replace HB:=yH HB hb;clear hb ho0;obtain ⟨Ao8,co8,eo8⟩:=Kd.S_slice HO150.out;subst eo8;obtain ⟨hcz9_0,hfz9_0⟩:=yk1 BK146))
  refine bodyPost_ret (results_ct rfl _ _ gb146 27 #[.slice Ao8 t148.length co8] (0,0) _ rfl (by refine sB ?_;refine blk_put (cs:=#[.slice none 0 0]) ?_ 0 _ rfl;exact yB BK146) Try.underlying27 rfl d12) rfl ?_
  exact ⟨_,d2,by refine sS ?_;exact Kd.S_mono (Kd.S_far (p:=⟨gb146,0,none⟩) (Kd.S_types HO150.out BK146.out d9) (fun _ hk=>hk.2) (.slice Ao8 t148.length co8)) (fun _ hk=>trivial),yW HB⟩
 replace c4:=Bool.eq_false_iff.mpr c4
 subst c4
 replace H:=yn H
 simp only [Option.some.injEq,Prod.mk.injEq] at H
 obtain ⟨rfl,rfl⟩:=H
 go_enter Try.func33,Try.ntmps33
 go_wp2_with (first|((with_reducible refine gD 4 ?_);refine gB (cs:=#[.slice none 0 0]) 27 ?_;intro gb146 hg w10 hbox hb;have BK146:=am (hbox);have GW146:=ye HB hg;replace HB:=yH HB hb;have GE146:=GW146;clear hb hbox hg)|((with_reducible refine gC 82 ?_);refine gM (some 8) Try.func82 (args:=#[.int .i64 a0, .int .i64 a1]) (impl_areSides.calls a0 a1 false _ A3.out) ?_;rintro e w' ⟨rfl,⟨nd,rfl⟩⟩;refine ⟨_,rfl,?_⟩;(try (rw [drewN_self w10];generalize hq_:World.drewN w10 _=w10;have n0_:Aside0 (w10.heap[gb146]? = some (.cells #[.slice none 0 0] 27 (0,0))):=⟨by rw [← hq_];exact (yB BK146)⟩;have n1_:Aside0 (Below w.heap.size w w10):=⟨d19⟩;clear BK146 HB hq_;have BK146:=n0_;have HB:=n1_;clear n0_ n1_));obtain ⟨hcz11_0,hfz11_0⟩:=yk1 BK146))
 refine bodyPost_ret (results_ct rfl _ _ gb146 27 #[.slice none 0 0] (0,0) _ rfl (by refine sB ?_;refine blk_put (cs:=#[.slice none 0 0]) ?_ 0 _ rfl;exact yB BK146) Try.underlying27 rfl d12) rfl ?_
 exact ⟨_,d2,d11,yW HB⟩
end Go.Proofs.Yteflgifmdojahaa.PFnCauchy
-- SQUEEZED
