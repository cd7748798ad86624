-- Laid by a program of this session.
import Derived.Test.YtajikfnpcobnpaaVMendStripeB
import Derived.Test.YtajikfnpcobnpaaProg
import Derived.Below
import Derived.Deep.Draws
import Derived.Deep.AppendLies
import Derived.Maps.AppendAt
import Derived.OwnWalk
import Derived.Laws.BytesArg
import Derived.Laws.MakeOwn
import Derived.Laws.OwnMore
import Derived.Deep.OwnRows
import Derived.Tactics
import Derived.Lib.ConvBytes
import Derived.Laws.Slices
import Derived.WalkKit
import Derived.KernelRfl
import Derived.RowKit3
import Derived.Deep.LoopGhost
import Derived.Deep.QuietTactic
import Derived.BigQuiet
import Derived.WideLaws
import Derived.Deep.DeepCutAuto
import Derived.Deep.CutBlock
import Derived.Deep.RegionHeld3
import Derived.Laws.Rows
import Derived.Lib.AppendStr
import Derived.ArgAppend
import Derived.Laws.IdiomCopy
import Derived.OrdersHeld
import Derived.Laws.BitsLemmas
import Derived.Shelf.Abstract
import Derived.RowKit
import Derived.Lib.Hide
import Derived.Outline
import Derived.Test.YtajikfnpcobnpaaVMendStripeA
namespace Go.Proofs.Ytajikfnpcobnpaa.PFnExactMendStripe
open Go.RowKit Go.Proofs.YtajikfnpcobnpaaW.PrintWords Go.Proofs.YtajikfnpcobnpaaW.PrintLast Go.Proofs.YtajikfnpcobnpaaW.PrintMore Go.Proofs.Ytajikfnpcobnpaa.KitS
attribute [local go_sem] max2_int min2_int max_two min_two max_three min_three max_four min_four   -- for this text's walks alone
set_option linter.unusedVariables false
set_option linter.unusedSimpArgs false



def errW : Option Int→Value
  | none=>.nilIface
  | some c=>.iface 0 (.int .i64 c)
theorem errW_none : errW none = .nilIface:=rfl
theorem errW_some (c : Int) : errW (some c) = .iface 0 (.int .i64 c):=rfl

theorem info3 : (Try.prog.info? 3).map (fun i=>(i.zero,i.size,i.bytes))=some (some (.int .i64 0),1,8):=by kernel_rfl
theorem info5 : (Try.prog.info? 5).map (fun i=>(i.zero,i.size,i.bytes))=some (some (.int .u8 0),1,1):=by kernel_rfl
theorem info9 : (Try.prog.info? 9).map (fun i=>(i.zero,i.size,i.bytes))=some (some (.string ⟨#[]⟩),1,16):=by kernel_rfl
theorem info57 : (Try.prog.info? 57).map (fun i=>(i.zero,i.size,i.bytes))=some (some (.slice none 0 0),1,24):=by kernel_rfl
-- the values' own types
def rd_L3 (xs : List (List Int)) (i : Int) : (List Int):=xs.getD i.toNat ([] : List Int)
theorem at_L3 {w : World} {A : Option Addr} {n : Nat} {xs : List (List Int)} (h : Kd.C (Kd.slice 5 (Kd.int .u8)) w A n xs) (i : Int) (h0 : 0≤i) (h1 : i < n) : ∃ ad A0 c0,A=some ad∧w.cell? (ad.add i.toNat)=some (.slice A0 (rd_L3 xs i).length c0)∧(rd_L3 xs i).length≤c0∧(Kd.int .u8).C w A0 (rd_L3 xs i).length (rd_L3 xs i):=by
  obtain ⟨ad,c,e,_,hK,hc0⟩:=Kd.C_get h ([] : List Int) i h0 h1
  have hc : ∀ j u,c[j]? = some u→w.cell? (ad.add (i.toNat*1+j))=some u:=hc0
  obtain ⟨A0,c0,rfl,l0,g0⟩:=hK
  exact ⟨ad,A0,c0,e,by have hq:=hc 0 _ rfl;rwa [Nat.mul_one,Nat.add_zero] at hq,l0,g0⟩

/-- A function's value with more rounds: the steps of the proof. -/
theorem mm {p : Prop} (h : p:=by repeat' first | (with_reducible exact ih0 ..) | (with_reducible exact ih1 ..) | (with_reducible exact ih2 ..) | (with_reducible exact ih3 ..) | (with_reducible exact ih4 ..) | (with_reducible exact ih5 ..) | (with_reducible exact ih6 ..) | (with_reducible exact ih7 ..) | (with_reducible exact LeO.refl _) | (with_reducible exact LeO.none _) | (with_reducible refine LeO.ite ?_ ?_) | (with_reducible refine LeO.bind ?_ (fun _=>?_)) | (with_reducible exact impl_Inverse.mono ..) | (with_reducible exact impl_MendStripe.mono ..) | (with_reducible exact impl_Times.mono ..) | (with_reducible exact impl_added.mono ..) | (with_reducible exact impl_combined.mono ..) | (with_reducible exact impl_identity.mono ..) | (with_reducible exact impl_isIncreasing.mono ..) | (with_reducible exact impl_parityRows.mono ..) | (with_reducible exact impl_power.mono ..) | (with_reducible exact impl_scaled.mono ..) | (with_reducible exact impl_sumOf.mono ..) | (with_reducible exact impl_sums.mono ..) | (with_reducible exact impl_timesOf.mono ..) | (with_reducible exact laws_eqIntS.mono ..) | (with_reducible exact laws_eqStringS.mono ..) | (with_reducible exact laws_eqStripe.mono ..) | (with_reducible exact laws_heldStringS.mono ..) | (with_reducible exact laws_heldStripe.mono ..) | (with_reducible exact laws_markIntS.mono ..) | (with_reducible exact laws_markStringS.mono ..) | (with_reducible exact laws_markStripe.mono ..) | (with_reducible exact laws_markText.mono ..) | (with_reducible exact laws_szStringS.mono ..) | (with_reducible exact laws_szStripe.mono ..) | (with_reducible exact laws_toIntS.mono ..) | (with_reducible exact laws_toStringS.mono ..) | (with_reducible exact laws_toStripe.mono ..) | (with_reducible exact spec_GoodStripe.mono ..) | (with_reducible exact spec_MendStripe.mono ..) | (with_reducible exact spec_l1Add.mono ..) | (with_reducible exact spec_l1Inverse.mono ..) | (with_reducible exact spec_l1Power.mono ..) | (with_reducible exact spec_l1Scale.mono ..) | (with_reducible exact spec_l1Some.mono ..) | (with_reducible exact spec_l1Times.mono ..) | (with_reducible exact spec_l2Blank.mono ..) | (with_reducible exact spec_l2Identity.mono ..) | (with_reducible exact spec_l2Own.mono ..) | (with_reducible exact spec_l2Part.mono ..) | (with_reducible exact spec_l3All.mono ..) | (with_reducible exact spec_l3Rows.mono ..) | (with_reducible exact spec_l3Texts.mono ..) | (with_reducible exact spec_l6Matrix.mono ..) | (with_reducible exact spec_l6Plus.mono ..) | exact ih0 .. | exact ih1 .. | exact ih2 .. | exact ih3 .. | exact ih4 .. | exact ih5 .. | exact ih6 .. | exact ih7 .. | exact LeO.none _ | refine LeO.ite ?_ ?_ | refine LeO.bind ?_ (fun _=>?_)) : p:=h
abbrev Y : Bool:=true
abbrev Z : Bool:=false
theorem q1 {α : Type _} (l : List α) (i : Nat) (a : α) : l.toArray.setIfInBounds i a=(l.set i a).toArray:=List.setIfInBounds_toArray ..
theorem q2 {α : Type _} {x : α} {xs : List α} {a : α} : (x :: xs).set 0 a=a :: xs:=rfl
theorem q3 {α : Type _} {x : α} {xs : List α} {i : Nat} {a : α} : (x :: xs).set (i+1) a=x :: xs.set i a:=rfl
theorem am {p : Prop} (h : p) : Aside0 p := Aside0.mk h
theorem pb {B : Nat} {w W : World} (h : Below B w W) (n : Nat) : Below B w (W.drewN n) := pw_below_drewN h n
theorem pd {base : Nat} {w W : World} (h : Below base w W) : Below base w W.drew := below_drew1 h
theorem pa {w W : World} (h : Below w.heap.size w W) (o : Obj) : Below w.heap.size w (W.alloc o) := below_alloc h o
theorem pt {w W : World} {g j : Nat} {v : Value} (h : Below w.heap.size w W) (hg : w.heap.size ≤ g) : Below w.heap.size w (W.setCell ⟨g, j, none⟩ v) := below_set h hg
theorem pz {w W : World} (h : Below w.heap.size w W) : w.heap.size ≤ W.heap.size := below_size h
theorem pu {w W w2 : World} (h : Below w.heap.size w W) (k : Below W.heap.size W w2) : Below w.heap.size w w2 := below_step h k
theorem qn {w : World} {g : Nat} {o : Obj} (h : w.heap[g]? = some o) (n : Nat) : (w.drewN n).heap[g]? = some o := blk_drewN h n
theorem qa {w : World} {g : Nat} {o : Obj} (h : w.heap[g]? = some o) (o' : Obj) : (w.alloc o').heap[g]? = some o := blk_alloc h o'
theorem qd {w : World} {g : Nat} {o : Obj} (h : w.heap[g]? = some o) : w.drew.heap[g]? = some o := blk_drew h
theorem qb {w w1 : World} {g : Nat} {o : Obj} (h : w.heap[g]? = some o) (hb : Below w.heap.size w w1) : w1.heap[g]? = some o := blk_below h hb
theorem hh {a b c : Sort _} {p : a → b → c → Prop} (x : a) (y : b) (z : c) (h : p x y z) : p x y z := h
theorem q4 {α β : Type _} {f : α → β} {l : List α} : l.toArray.map f = (l.map f).toArray := List.map_toArray ..
theorem q5 {α β : Type _} {f : α → β} {a : α} {l : List α} : (a :: l).map f = f a :: l.map f := rfl
theorem q6 {α β : Type _} {f : α → β} : ([] : List α).map f = [] := rfl
theorem q7 {α : Type _} {i : Nat} {l : List α} : (l.drop i).length = l.length - i := List.length_drop ..
theorem q8 {α : Type _} {i : Nat} {l : List α} : (l.take i).length = min i l.length := List.length_take ..
theorem od {p : Prop} [Decidable p] (e : decide p = true) : p := of_decide_eq_true e
section
variable {P : Program} {md : Region.Mode} {ops : Array Oper} {Q : Exit → Act → World → Prop} {S : World → Prop} {ds : List Nat} {T : Bool × List (List Nat × List Nat)} {B : List Nat}
/-- What has come up, the last first. -/
def lst (n : Nat) : List Nat → Array Bool
  | [] => Array.replicate n false
  | i :: s => (lst n s).setIfInBounds i true
def lsl (n : Nat) : List Nat → List Bool
  | [] => List.replicate n false
  | i :: s => (lsl n s).set i true
theorem lst_l (n : Nat) : ∀ s, (lst n s).toList = lsl n s
  | [] => by simp [lst, lsl]
  | i :: s => by simp [lst, lsl, lst_l n s]
/-- What comes next, in this order. -/
def Todo (r : List (Nat × Nat)) (p : Prop) : Prop := p
theorem rS {id n : Nat} {a : Act} {w : World} (r : List (Nat × Nat)) (hn : ops.size = n) (hm : P.follows .mixedOrders = true) (hT : rtab .any ops = T) (hB : waitsOk T.2 B = true) (hS : S w.drew)
    (h : S w.drew → Aside0 (rtab .any ops = T) → Aside0 (waitsOk T.2 B = true) → Todo r (wpAnyLast P .any ops Q S ds n (lst n []) a w.drew)) : (Code.region id ops true).wp P Q a w :=
  start_ (Array.replicate n false) hm hn rfl hS fun h1 => h h1 ⟨hT⟩ ⟨hB⟩
theorem rP {i u : Nat} {oi : Oper} {v : Value} {fuel n : Nat} {s : List Nat} {r : List (Nat × Nat)} {a : Act} {w : World} (hT : Aside0 (rtab md ops = T)) (hi : ops[i]? = some oi) (hN : oi.dst = some u) (hc : anyT T (lsl n s) ((lsl n s).set i true) i = true)
    (hQ : ∀ c a w, Q (.panic c) (a.put oi.dst v) w → Q (.panic c) a w) (hy : Yields P ops oi v a) {a' : Act} (ha : a.put (some u) v = a') (h : Todo r (wpAnyLast P md ops Q S ds fuel (lst n (i :: s)) a' w)) :
    Todo ((i, u) :: r) (wpAnyLast P md ops Q S ds (fuel + 1) (lst n s) a w) :=
  pure_ (lst n (i :: s)) hi hN (any_of hT.out (by rw [lst_l, lst_l]; exact hc)) hQ hy ha h
theorem rT {i u : Nat} {oi : Oper} {v : Value} {fuel n : Nat} {s : List Nat} {r : List (Nat × Nat)} {a : Act} {w : World} (hT : Aside0 (rtab md ops = T)) (hB : Aside0 (waitsOk T.2 B = true)) (hS : S w) (hi : ops[i]? = some oi) (hN : oi.dst = some u) (hc : takeW T B ds (lsl n s) ((lsl n s).set i true) i = true)
    (hQ : ∀ c a w, Q (.panic c) (a.put oi.dst v) w → Q (.panic c) a w) (hy : YieldsIf P ops S oi v a) {a' : Act} (ha : a.put (some u) v = a') (h : Todo r (wpAnyLast P md ops Q S ds fuel (lst n (i :: s)) a' w)) :
    Todo ((i, u) :: r) (wpAnyLast P md ops Q S ds (fuel + 1) (lst n s) a w) :=
  take_ (lst n (i :: s)) hi hN (take_ofW hT.out hB.out (by rw [lst_l, lst_l]; exact hc)) hQ hy hS ha h
theorem rO {i u : Nat} {N : Option Tmp} {oi : Oper} {fuel n : Nat} {s : List Nat} {r : List (Nat × Nat)} {a : Act} {w : World} (hT : Aside0 (rtab md ops = T)) (hi : ops[i]? = some oi) (hN : oi.dst = N) (hc : (readyT T.2 (lsl n s) == [i]) = true) (hd : i ∉ ds)
    (h : ∀ K : Act → World → Prop, Shut (∀ a' w', S w' → (S w' → Todo r (wpAnyLast P md ops Q S ds fuel (lst n (i :: s)) a' w')) → K a' w') → if Region.wanted oi (yielded ops a.tmps) = true then Oper.wp P oi a w K Q else K (a.put N undef) w) :
    Todo ((i, u) :: r) (wpAnyLast P md ops Q S ds (fuel + 1) (lst n s) a w) :=
  one_ (lst n (i :: s)) hi hN (one_of hT.out (by rw [lst_l, lst_l, hc]; show (true && ((lsl n s).set i true == (lsl n s).set i true)) = true; simp)) hd h
theorem rL {i u : Nat} {N : Option Tmp} {oi : Oper} {fuel n : Nat} {s : List Nat} {r : List (Nat × Nat)} {a : Act} {w : World} (hT : Aside0 (rtab md ops = T)) (hi : ops[i]? = some oi) (hN : oi.dst = N) (hc : (readyT T.2 (lsl n s) == [i]) = true) (hd : i ∈ ds)
    (h : ∀ K : Act → World → Prop, Shut (∀ a' w', Todo r (wpAnyLast P md ops Q S ds fuel (lst n (i :: s)) a' w') → K a' w') → if Region.wanted oi (yielded ops a.tmps) = true then Oper.wp P oi a w K Q else K (a.put N undef) w) :
    Todo ((i, u) :: r) (wpAnyLast P md ops Q S ds (fuel + 1) (lst n s) a w) :=
  last_ (lst n (i :: s)) hi hN (one_of hT.out (by rw [lst_l, lst_l, hc]; show (true && ((lsl n s).set i true == (lsl n s).set i true)) = true; simp)) hd h
theorem rD {s : List Nat} {a : Act} {w : World} {k n : Nat} (hT : Aside0 (rtab md ops = T)) (hc : (readyT T.2 (lsl n s) == []) = true) (h : Q .normal a w) : Todo [] (wpAnyLast P md ops Q S ds k (lst n s) a w) :=
  done_ (done_of hT.out (by rw [lst_l]; exact hc)) h
theorem rN {r : List (Nat × Nat)} {fuel : Nat} {l : Array Bool} {a a' : Act} {w : World} (ha : a = a') (h : Todo r (wpAnyLast P md ops Q S ds fuel l a' w)) : Todo r (wpAnyLast P md ops Q S ds fuel l a w) := norm_ ha h
end
/-- All steps that only yield. -/
theorem rR {p q : Prop} (hq : q) (h : q → p := by
  intro hq_
  repeat first
    | (refine rP HT_ rfl rfl (by kernel_rfl) hh (Or.inl ⟨by rfl, by intro w'; go_simp; with_reducible rfl⟩) (by simp only [Act.put, q1, q2, q3, i64_w, i32_w]; rfl) ?_)
    | (refine rP (v := undef) HT_ rfl rfl (by kernel_rfl) hh (Or.inr ⟨by rfl, rfl⟩) (by simp only [Act.put, q1, q2, q3, i64_w, i32_w]; rfl) ?_)
    | (refine rT HT_ HW_ hHeld rfl rfl (by kernel_rfl) hh (Or.inl ⟨by rfl, by intro w' hs; (repeat (have s_ := hs.1; replace hs := hs.2)); go_simp; with_reducible rfl⟩) (by simp only [Act.put, q1, q2, q3, i64_w, i32_w]; rfl) ?_)
  exact hq_) : p := h hq
theorem D0 {p : Prop} (h : p := by first|(with_reducible assumption)|assumption) : p := h
theorem D1 {p : Prop} (h : p := by first|rfl|(simp;done)|(simp [*];done)) : p := h
theorem D2 {p : Prop} (h : p := by kernel_rfl) : p := h
theorem D3 {p : Prop} (h : p := by first|rfl|(simp [errW_none,errW_some] <;> rfl)|(simp [*,errW_none,errW_some] <;> rfl)) : p := h
theorem D4 {p : Prop} (h : p := by (try simp only [q4,q5,q6]);first|done|rfl|(simp only [q7,q8];rfl)) : p := h
theorem D5 {p : Prop} (h : p := by repeat (first|exact Drawn0.refl _|apply Drawn0.step)) : p := h
theorem D6 {p : Prop} (h : p := by decide) : p := h
theorem D7 {p : Prop} (h : p := by first|exact Kd.N_base ho0|exact Kd.S_base ho0|exact Kd.R_base ho0) : p := h
theorem D8 {p : Prop} (h : p := by omega) : p := h
theorem D9 {p : Prop} (h : p := by first|exact Kd.R_nil _ _ _ _ _|exact Kd.N_nil _ _ _ _ _|exact Kd.V_nil _ _ _ _ _|exact Kd.Q_nil _ _ _ _ _|exact Kd.S_nil _ _ _ _ _) : p := h
theorem D10 {p : Prop} (h : p := by rfl) : p := h
theorem D11 {p : Prop} (h : p := by refine sN ?_;exact Kd.N_mono HO267.out (fun _ hk=>⟨hk.2.2.2.2.1,⟨hk.2.2.2.2.2.1,⟨hk.2.1,⟨hk.2.2.1,⟨hk.2.2.2.1,⟨hk.1,⟨hk.2.2.2.2.2.2.1,⟨hk.2.2.2.2.2.2.2.1,⟨hk.2.2.2.2.2.2.2.2.1,hk.2.2.2.2.2.2.2.2.2⟩⟩⟩⟩⟩⟩⟩⟩⟩)) : p := h
theorem D12 {p : Prop} (h : p := by repeat (first|(with_reducible first|exact HK.out|apply Kept.alloc|apply Kept.drewN|apply Kept.drew)|exact HK.out)) : p := h
theorem D13 {p : Prop} (h : p := by (try simp only [q4,q5,q6]);first|done|rfl|(go_simp;done)) : p := h
theorem D14 {p : Prop} (h : p := by refine sN ?_;exact Kd.N_mono HO264.out (fun _ hk=>⟨hk.1.2.2.2.2.1,⟨hk.2,⟨hk.1.2.1,⟨hk.1.2.2.1,⟨hk.1.2.2.2.1,⟨hk.1.1,⟨hk.1.2.2.2.2.2.1,⟨hk.1.2.2.2.2.2.2.1,⟨hk.1.2.2.2.2.2.2.2.1,hk.1.2.2.2.2.2.2.2.2⟩⟩⟩⟩⟩⟩⟩⟩⟩)) : p := h
theorem D15 {p : Prop} (h : p := by refine sR ?_;exact Kd.R_mono HO_226001.out (fun _ hk=>⟨hk.2,hk.1⟩)) : p := h
theorem D16 {p : Prop} (h : p := by refine sR ?_;exact Kd.R_mono HO_226000.out (fun _ hk=>⟨hk.2,hk.1⟩)) : p := h
theorem D17 {p : Prop} (h : p := by have:=HK1.out;omega) : p := h
theorem D18 {p : Prop} (h : p := by simp only [putAll,Act.put,q1,q2,q3]) : p := h
theorem D19 {p : Prop} (h : p := by first|(go_simp;done)|(go_simp;rfl)) : p := h
theorem D20 {p : Prop} (h : p := by exact (fun _ _=>trivial)) : p := h
theorem D21 {p : Prop} (h : p := by rw [idM_length];exact HN.out.symm) : p := h
theorem D22 {p : Prop} (h : p := by refine sR ?_;exact (Kd.R_mono (Kd.R_far (p:=⟨gb244,0,none⟩) (Kd.R_types HO_226000.out BK244.out D6) (fun _ hk=>hk.2) (.slice Ao65 t241.length co65)) (fun _ h_=>h_.1))) : p := h
theorem D23 {p : Prop} (h : p := by (try simp only [q4,q5,q6]);first|done|rfl|(go_simp;done)|(simp only [q7,q8];rfl)) : p := h
theorem D24 {p : Prop} (h : p := by refine sR ?_;exact (Kd.R_mono (Kd.R_far (p:=⟨gb269,0,none⟩) (Kd.R_types HO_9.out BK269.out D6) (fun _ hk=>hk.2) (.slice Ao97 t265.length co97)) (fun _ h_=>h_.1))) : p := h
theorem D25 {p : Prop} (h : p := by exact (pz (yW HB))) : p := h
theorem D26 {p : Prop} (h : p := by repeat (first|(with_reducible first|exact HK.out|apply Kept.alloc|apply Kept.drewN|apply Kept.drew|refine Kept.setCell ?_ (.inr GW373.out) _)|exact HK.out)) : p := h
theorem D27 {p : Prop} (h : p := by refine sR ?_;exact Kd.R_mono HO317.out (fun _ hk=>hk.2)) : p := h
theorem D28 {p : Prop} (h : p := by refine sR ?_;exact Kd.R_mono HO314.out (fun _ hk=>hk.2)) : p := h
theorem D29 {p : Prop} (h : p := by exact (Reps.none _ _)) : p := h
theorem D30 {p : Prop} (h : p := by refine sV ?_;exact Kd.V_mono HO_74.out (fun _ hk=>⟨hk.1.1.2,⟨hk.1.2,⟨hk.2,⟨hk.1.1.1.1.2.1,⟨hk.1.1.1.1.2.2.1,⟨hk.1.1.1.1.2.2.2.1,⟨hk.1.1.1.1.1,⟨hk.1.1.1.1.2.2.2.2.1,⟨hk.1.1.1.1.2.2.2.2.2.1,⟨hk.1.1.1.1.2.2.2.2.2.2,hk.1.1.1.2⟩⟩⟩⟩⟩⟩⟩⟩⟩⟩)) : p := h
theorem D31 {p : Prop} (h : p := by refine sV ?_;exact Kd.V_mono HO_74.out (fun _ hk=>⟨hk.1.1.1.2,⟨hk.1.2,⟨hk.2,⟨hk.1.1.1.1.2.1,⟨hk.1.1.1.1.2.2.1,⟨hk.1.1.1.1.2.2.2.1,⟨hk.1.1.1.1.1,⟨hk.1.1.1.1.2.2.2.2.1,⟨hk.1.1.1.1.2.2.2.2.2.1,⟨hk.1.1.1.1.2.2.2.2.2.2,hk.1.1.2⟩⟩⟩⟩⟩⟩⟩⟩⟩⟩)) : p := h
theorem D32 {p : Prop} (h : p := by refine sV ?_;exact Kd.V_mono HO_74.out (fun _ hk=>⟨hk.1.1.1.2,⟨hk.1.1.2,⟨hk.2,⟨hk.1.1.1.1.2.1,⟨hk.1.1.1.1.2.2.1,⟨hk.1.1.1.1.2.2.2.1,⟨hk.1.1.1.1.1,⟨hk.1.1.1.1.2.2.2.2.1,⟨hk.1.1.1.1.2.2.2.2.2.1,⟨hk.1.1.1.1.2.2.2.2.2.2,hk.1.2⟩⟩⟩⟩⟩⟩⟩⟩⟩⟩)) : p := h
theorem D33 {p : Prop} (h : p := by refine sV ?_;exact Kd.V_mono HO_74.out (fun _ hk=>⟨hk.1.1.1.2,⟨hk.1.1.2,⟨hk.1.2,⟨hk.1.1.1.1.2.1,⟨hk.1.1.1.1.2.2.1,⟨hk.1.1.1.1.2.2.2.1,⟨hk.1.1.1.1.1,⟨hk.1.1.1.1.2.2.2.2.1,⟨hk.1.1.1.1.2.2.2.2.2.1,⟨hk.1.1.1.1.2.2.2.2.2.2,hk.2⟩⟩⟩⟩⟩⟩⟩⟩⟩⟩)) : p := h
theorem D34 {p : Prop} (h : p := by rw [← HN.out];exact hn2) : p := h
theorem D35 {p : Prop} (h : p := by rw [← HN.out];exact hn1) : p := h
theorem D36 {p : Prop} (h : p := by rw [← HN.out];exact hc0) : p := h
theorem D37 {p : Prop} (h : p := by rw [idM_length];exact hIc) : p := h
theorem D38 {p : Prop} (h : p := by simp) : p := h
theorem D39 {p : Prop} (h : p := by have:=HK1.out;have:=HK2.out;omega) : p := h
theorem D40 {p : Prop} (h : p := by first|exact Kd.S_nil _ _ _ _ _|exact Kd.N_nil _ _ _ _ _|exact Kd.V_nil _ _ _ _ _|exact Kd.Q_nil _ _ _ _ _|exact Kd.R_nil _ _ _ _ _) : p := h
theorem D41 {p : Prop} (h : p := by refine sN ?_;exact Kd.N_mono HO_245000.out (fun _ hk=>⟨hk.1.1.2,⟨hk.1.2,⟨hk.2,⟨hk.1.1.1.1.2.1,⟨hk.1.1.1.1.2.2.1,⟨hk.1.1.1.1.1,⟨hk.1.1.1.1.2.2.2.1,⟨hk.1.1.1.1.2.2.2.2.1,⟨hk.1.1.1.1.2.2.2.2.2,hk.1.1.1.2⟩⟩⟩⟩⟩⟩⟩⟩⟩)) : p := h
theorem D42 {p : Prop} (h : p := by refine sN ?_;exact Kd.N_mono HO_245000.out (fun _ hk=>⟨hk.1.1.1.2,⟨hk.1.2,⟨hk.2,⟨hk.1.1.1.1.2.1,⟨hk.1.1.1.1.2.2.1,⟨hk.1.1.1.1.1,⟨hk.1.1.1.1.2.2.2.1,⟨hk.1.1.1.1.2.2.2.2.1,⟨hk.1.1.1.1.2.2.2.2.2,hk.1.1.2⟩⟩⟩⟩⟩⟩⟩⟩⟩)) : p := h
theorem D43 {p : Prop} (h : p := by refine sN ?_;exact Kd.N_mono HO_245000.out (fun _ hk=>⟨hk.1.1.1.2,⟨hk.1.1.2,⟨hk.2,⟨hk.1.1.1.1.2.1,⟨hk.1.1.1.1.2.2.1,⟨hk.1.1.1.1.1,⟨hk.1.1.1.1.2.2.2.1,⟨hk.1.1.1.1.2.2.2.2.1,⟨hk.1.1.1.1.2.2.2.2.2,hk.1.2⟩⟩⟩⟩⟩⟩⟩⟩⟩)) : p := h
theorem D44 {p : Prop} (h : p := by refine sN ?_;exact Kd.N_mono HO_245000.out (fun _ hk=>⟨hk.1.1.1.2,⟨hk.1.1.2,⟨hk.1.2,⟨hk.1.1.1.1.2.1,⟨hk.1.1.1.1.2.2.1,⟨hk.1.1.1.1.1,⟨hk.1.1.1.1.2.2.2.1,⟨hk.1.1.1.1.2.2.2.2.1,⟨hk.1.1.1.1.2.2.2.2.2,hk.2⟩⟩⟩⟩⟩⟩⟩⟩⟩)) : p := h
theorem D45 {p : Prop} (h : p := by rw [e_];rfl) : p := h
theorem D46 {p : Prop} (h : p := by simp [Value.ownBlock]) : p := h
theorem D47 {p : Prop} (h : p := by refine sN ?_;exact Kd.N_mono HO267.out (fun _ hk=>⟨hk.1.2.2.2.2.1,⟨hk.1.2.2.2.2.2.1,⟨hk.1.2.1,⟨hk.1.2.2.1,⟨hk.1.2.2.2.1,⟨hk.1.1,⟨hk.1.2.2.2.2.2.2.1,⟨hk.1.2.2.2.2.2.2.2.1,⟨hk.1.2.2.2.2.2.2.2.2,hk.2⟩⟩⟩⟩⟩⟩⟩⟩⟩)) : p := h
theorem D48 {p : Prop} (h : p := by refine sN ?_;exact Kd.N_mono HO264.out (fun _ hk=>⟨hk.1.1.2.2.2.2.1,⟨hk.2,⟨hk.1.1.2.1,⟨hk.1.1.2.2.1,⟨hk.1.1.2.2.2.1,⟨hk.1.1.1,⟨hk.1.1.2.2.2.2.2.1,⟨hk.1.1.2.2.2.2.2.2.1,⟨hk.1.1.2.2.2.2.2.2.2,hk.1.2⟩⟩⟩⟩⟩⟩⟩⟩⟩)) : p := h
theorem D49 {p : Prop} (h : p := by refine sN ?_;exact Kd.N_mono HO264.out (fun _ hk=>⟨hk.1.1.2.2.2.2.1,⟨hk.1.2,⟨hk.1.1.2.1,⟨hk.1.1.2.2.1,⟨hk.1.1.2.2.2.1,⟨hk.1.1.1,⟨hk.1.1.2.2.2.2.2.1,⟨hk.1.1.2.2.2.2.2.2.1,⟨hk.1.1.2.2.2.2.2.2.2,hk.2⟩⟩⟩⟩⟩⟩⟩⟩⟩)) : p := h
theorem D50 {p : Prop} (h : p := by exact (yW HB)) : p := h
theorem D51 {p : Prop} (h : p := by refine sN ?_;exact (Kd.N_mono (Kd.N_far (p:=⟨gb269,0,none⟩) (Kd.N_mono HO267.out (fun k_ hk=>(⟨hk,hk.2.2.2.2.2.2.2.2.2⟩:_∧k_ ≠ gb269))) (fun _ hk=>hk.2) (.slice Ao97 t265.length co97)) (fun _ h_=>h_.1))) : p := h
theorem D52 {p : Prop} (h : p := by refine sN ?_;exact (Kd.N_mono (Kd.N_far (p:=⟨gb244,0,none⟩) (Kd.N_mono HO243.out (fun k_ hk=>(⟨hk,hk.2⟩:_∧k_ ≠ gb244))) (fun _ hk=>hk.2) (.slice Ao65 t241.length co65)) (fun _ h_=>h_.1))) : p := h
theorem D53 {p : Prop} (h : p := by have:=HJ2.out;have:=HK2.out;have:=HK3.out;have:=HK4.out;omega) : p := h
theorem D54 {p : Prop} (h : p := by refine sB ?_;refine blk_put (cs:=#[.slice none 0 0, .slice none 0 0]) ?_ 1 _ rfl;refine sB ?_;refine blk_put (cs:=#[.slice none 0 0, .slice none 0 0]) ?_ 0 _ rfl;exact yB BK309) : p := h
theorem D55 {p : Prop} (h : p := by refine sR ?_;exact (Kd.R_mono (Kd.R_far (p:=⟨gb269,0,none⟩) (Kd.R_types HO_226001.out BK269.out D6) (fun _ hk=>hk.2) (.slice Ao97 t265.length co97)) (fun _ h_=>h_.1))) : p := h
theorem D56 {p : Prop} (h : p := by refine sR ?_;exact (Kd.R_mono (Kd.R_far (p:=⟨gb269,0,none⟩) (Kd.R_types HO_226000.out BK269.out D6) (fun _ hk=>hk.2) (.slice Ao97 t265.length co97)) (fun _ h_=>h_.1))) : p := h
theorem D57 {p : Prop} (h : p := by refine sR ?_;exact (Kd.R_mono (Kd.R_far (p:=⟨gb244,0,none⟩) (Kd.R_types HO_226001.out BK244.out D6) (fun _ hk=>hk.2) (.slice Ao65 t241.length co65)) (fun _ h_=>h_.1))) : p := h
theorem D58 {p : Prop} (h : p := by refine sR ?_;exact (Kd.R_mono (Kd.R_far (p:=⟨gb232,0,none⟩) (Kd.R_types HO235.out BK232.out D6) (fun _ hk=>hk.2) (.slice Ao11 t233.length co11)) (fun _ h_=>h_.1))) : p := h
theorem D59 {p : Prop} (h : p := by repeat (first|exact (Kd.C_below HR0.out HB.out)|(with_reducible refine Kd.C_alloc ?_ _)|(with_reducible refine Kd.C_drewN ?_ _)|(with_reducible refine Kd.C_drew ?_))) : p := h
theorem D60 {p : Prop} (h : p := by have:=hk.2;omega) : p := h
theorem D61 {p : Prop} (h : p := by have:=hk.1;omega) : p := h
theorem D62 {p : Prop} (h : p := by first|omega|exact Nat.le_refl _) : p := h
theorem D63 {p : Prop} (h : p := by refine sS ?_;exact Kd.S_mono HO_11.out (fun _ hk=>⟨hk.2,hk.1⟩)) : p := h
theorem D64 {p : Prop} (h : p := by refine sR ?_;exact Kd.R_mono HO136.out (fun _ hk=>hk.2)) : p := h
theorem D65 {p : Prop} (h : p := by exact rfl) : p := h
end Go.Proofs.Ytajikfnpcobnpaa.PFnExactMendStripe
-- SHRUNK
-- SQUEEZED
-- SQUEEZED2
-- SQUEEZED3
-- SQUEEZED4
-- SQUEEZED5
-- SQUEEZED6
