/- Words for the walk through a law: what is the law's own lies between two heights of the heap; no program stands here. -/
import Derived.Test.YtajikfnpcobnpaaVDecodeMsrWMore
namespace Go.Proofs.Ytajikfnpcobnpaa.LawKit
open Go.RowKit Go.Proofs.YtajikfnpcobnpaaW.PrintWords Go.Proofs.YtajikfnpcobnpaaW.PrintLast
set_option linter.unusedVariables false
set_option linter.unusedSimpArgs false
theorem calls_named {P : Program} {f : FuncId} {args : Array Value} {w : World} {Q : Ending→World→Prop} (h : ∀ W,W=w→Calls P f args W Q) : Calls P f args w Q:=h w rfl
section
variable {α : Type} {d : Kd α} {e b lo hi : Nat} {ok P : Nat→Prop} {w W W' : World} {v : Value} {xs : List α}
structure OwnS {α : Type} (d : Kd α) (e b lo hi : Nat) (W : World) (v : Value) (xs : List α) : Prop where mk :: (out : Kd.S d e W b (fun k=>lo≤k∧k < hi) v xs)
structure OwnR {α : Type} (d : Kd α) (e b lo hi : Nat) (W : World) (v : Value) (xs : List α) : Prop where mk :: (out : d.R e W b (fun k=>lo≤k∧k < hi) v xs)
structure OwnN {α : Type} (d : Kd α) (e b lo hi : Nat) (W : World) (v : Value) (xs : List α) : Prop where mk :: (out : Kd.N d e W b (fun k=>lo≤k∧k < hi) v xs)
theorem OwnN.new (h : Kd.N d e W' W.heap.size (fun k=>W.heap.size≤k) v xs) (hb : b≤W.heap.size) : OwnN d e b W.heap.size W'.heap.size W' v xs :=
  ⟨Kd.N_lower (Kd.N_mono (Kd.N_bound h) (fun _ hk=>⟨hk.1,hk.2⟩)) hb⟩
theorem OwnN.below (h : OwnN d e b lo hi W v xs) (hb : Below W.heap.size W W') : OwnN d e b lo hi W' v xs:=⟨Kd.N_below h.out hb⟩
theorem OwnN.kept (h : OwnN d e b lo hi W v xs) (hk : Kept W W' P) (hne : ∀ k,lo≤k→k < hi→¬ P k) : OwnN d e b lo hi W' v xs:=⟨Kd.N_kept h.out hk (fun k h=>hne k h.1 h.2)⟩
theorem OwnN.slice (h : OwnN d e b lo hi W v xs) : ∃ A c,v = .slice A xs.length c:=Kd.N_slice h.out
theorem OwnN.C {A : Option Addr} {n c : Nat} (h : OwnN d e b lo hi W (.slice A n c) xs) : d.C W A xs.length xs:=(Kd.N_reads' h.out).2.2
theorem OwnN.cap {A : Option Addr} {n c : Nat} (h : OwnN d e b lo hi W (.slice A n c) xs) : xs.length≤c:=(Kd.N_reads' h.out).1 ▸ (Kd.N_reads' h.out).2.1
theorem OwnS.new (h : Kd.S d e W' W.heap.size ok v xs) (hb : b≤W.heap.size) : OwnS d e b W.heap.size W'.heap.size W' v xs :=
  ⟨Kd.S_lower (Kd.S_mono (Kd.S_bound h) (fun _ hk=>⟨hk.2.1,hk.2.2.1⟩)) hb⟩
theorem OwnR.new (h : d.R e W' W.heap.size ok v xs) (hb : b≤W.heap.size) : OwnR d e b W.heap.size W'.heap.size W' v xs :=
  ⟨Kd.R_lower (Kd.R_mono (Kd.R_bound h) (fun _ hk=>⟨hk.2.1,hk.2.2.1⟩)) hb⟩
theorem OwnS.below (h : OwnS d e b lo hi W v xs) (hb : Below W.heap.size W W') : OwnS d e b lo hi W' v xs:=⟨Kd.S_below h.out hb⟩
theorem OwnR.below (h : OwnR d e b lo hi W v xs) (hb : Below W.heap.size W W') : OwnR d e b lo hi W' v xs:=⟨Kd.R_below h.out hb⟩
theorem OwnS.kept (h : OwnS d e b lo hi W v xs) (hk : Kept W W' P) (hne : ∀ k,lo≤k→k < hi→¬ P k) : OwnS d e b lo hi W' v xs:=⟨Kd.S_kept h.out hk (fun k h=>hne k h.1 h.2)⟩
theorem OwnR.kept (h : OwnR d e b lo hi W v xs) (hk : Kept W W' P) (hne : ∀ k,lo≤k→k < hi→¬ P k) : OwnR d e b lo hi W' v xs:=⟨Kd.R_kept h.out hk (fun k h=>hne k h.1 h.2)⟩
theorem OwnS.far (h : OwnS d e b lo hi W v xs) {p : Addr} (hne : ¬ (lo≤p.block∧p.block < hi)) (u : Value) : OwnS d e b lo hi (W.setCell p u) v xs:=⟨Kd.S_far h.out (fun k hk e=>hne (e ▸ hk)) u⟩
theorem OwnR.far (h : OwnR d e b lo hi W v xs) {p : Addr} (hne : ¬ (lo≤p.block∧p.block < hi)) (u : Value) : OwnR d e b lo hi (W.setCell p u) v xs:=⟨Kd.R_far h.out (fun k hk e=>hne (e ▸ hk)) u⟩
theorem OwnN.far (h : OwnN d e b lo hi W v xs) {p : Addr} (hne : ¬ (lo≤p.block∧p.block < hi)) (u : Value) : OwnN d e b lo hi (W.setCell p u) v xs:=⟨Kd.N_far h.out (fun k hk e=>hne (e ▸ hk)) u⟩
theorem OwnS.slice (h : OwnS d e b lo hi W v xs) : ∃ A c,v = .slice A xs.length c:=Kd.S_slice h.out
theorem OwnR.slice (h : OwnR d e b lo hi W v xs) : ∃ A c,v = .slice A xs.length c:=Kd.R_slice h.out
theorem OwnS.C {A : Option Addr} {n c : Nat} (h : OwnS d e b lo hi W (.slice A n c) xs) : d.C W A xs.length xs:=(Kd.S_reads' h.out).1 ▸ (Kd.S_reads' h.out).1 ▸ (Kd.S_reads' h.out).2.2
theorem OwnR.C {A : Option Addr} {n c : Nat} (h : OwnR d e b lo hi W (.slice A n c) xs) : d.C W A xs.length xs:=(Kd.R_reads' h.out).1 ▸ (Kd.R_reads' h.out).1 ▸ (Kd.R_reads' h.out).2.2
theorem OwnS.cap {A : Option Addr} {n c : Nat} (h : OwnS d e b lo hi W (.slice A n c) xs) : xs.length≤c:=(Kd.S_reads' h.out).1 ▸ (Kd.S_reads' h.out).2.1
theorem OwnR.cap {A : Option Addr} {n c : Nat} (h : OwnR d e b lo hi W (.slice A n c) xs) : xs.length≤c:=(Kd.R_reads' h.out).1 ▸ (Kd.R_reads' h.out).2.1
/-- Behind a writing call: marked rows. -/
theorem OwnR.marked {lo2 : Nat} {ys : List α} (hE : d.E=[]) (h : OwnR d e b lo hi W v xs) (h2 : d.R e W' b (fun k=>(lo≤k∧k < hi)∨lo2≤k) v ys) : OwnR d e b lo hi W' v ys :=
  ⟨Kd.R_mono (Kd.R_tight hE h2) (fun k hk=>h.out.1 k hk.symm)⟩
theorem OwnR.inside (h : OwnR d e b lo hi W v xs) {k : Nat} (hk : some k=v.ownBlock) : lo≤k∧k < hi:=h.out.1 k hk.symm
theorem below_on {b : Nat} {w W W' : World} (h : Below b w W) (hb : b≤W.heap.size) (k : Below W.heap.size W W') : Below b w W':=below_then h hb k
end
end Go.Proofs.Ytajikfnpcobnpaa.LawKit
-- SQUEEZED
