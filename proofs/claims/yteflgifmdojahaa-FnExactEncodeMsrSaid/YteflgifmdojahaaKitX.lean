/- Words for contracts by hand, over what the words of the print know of rows: rows of rows laid behind one another; no program stands here. -/
import Derived.Test.YteflgifmdojahaaWMore
namespace Go.Proofs.Yteflgifmdojahaa.KitX
open Go.RowKit Go.Proofs.YteflgifmdojahaaW.PrintWords Go.Proofs.YteflgifmdojahaaW.PrintLast
set_option linter.unusedVariables false
set_option linter.unusedSimpArgs false
section
variable {α : Type} {P : Program} {ops : Array Oper} {rest : List Oper} {o : Oper} {a : Act} {Q : Exit → Act → World → Prop} {Kc : Act → World → Prop}
theorem zip_append (xs ys : List α) : (xs ++ ys).zipIdx = xs.zipIdx ++ ys.zipIdx xs.length := by
  rw [List.zipIdx_append, Nat.zero_add]
/-- Two lists whose elements lead to nothing in common, tagged as one. -/
theorem S_join {d : Kd α} {e base m c : Nat} {ok okp : Nat → Prop} {w : World} {v : Value} {A : Option Addr} {xs ys : List α}
    (HO : Kd.S d e w base (fun k => ok k ∧ ¬ okp k) v xs) (HR : Kd.S d e w base okp (.slice A m c) ys) :
    ∃ f, (Kd.tag f d).R e w base (fun k => ok k ∧ ¬ okp k) v xs.zipIdx ∧ ReadsRow (fun x cs => (Kd.tag f d).M w base okp x cs) d.sz w A m (ys.zipIdx xs.length) := by
  obtain ⟨f1, h1⟩ := HO
  obtain ⟨f2, h2⟩ := HR
  open Classical in
  refine ⟨fun k => if okp k then f2 k + xs.length else f1 k, Kd.R_tag h1 (fun k hk _ => if_neg hk.2), ?_⟩
  obtain ⟨_, hr⟩ := h2
  obtain ⟨A', c', he, hl, hr⟩ := OwnRow.reads hr
  injection he with hA hm hc
  subst hA
  rw [List.length_zipIdx] at hm hr
  refine ⟨by rw [List.length_zipIdx]; omega, by have := hr.2.1; omega, fun hp => ?_⟩
  obtain ⟨ad, e1, hcell⟩ := hr.2.2 (by omega)
  refine ⟨ad, e1, fun j p hj => ?_⟩
  rw [List.getElem?_zipIdx] at hj
  obtain ⟨y, hy, rfl⟩ := Option.map_eq_some_iff.1 hj
  obtain ⟨cs, hcl, hM, hcc⟩ := hcell j (y, j) (by rw [List.getElem?_zipIdx, hy, Nat.zero_add]; rfl)
  refine ⟨cs, hcl, ?_, hcc⟩
  refine d.M_mono (fun k hk => ?_) hM
  have hk2 : (okp k ∧ some k ≠ (Value.slice A m c).ownBlock) ∧ f2 k = j := hk
  refine ⟨hk2.1.1, ?_⟩
  show (if okp k then f2 k + xs.length else f1 k) = xs.length + j
  rw [if_pos hk2.1.1, hk2.2]; omega
/-- append(v, ys...), what ys' elements lead to handed over. -/
theorem S_append_rows (d : Kd α) {w0 W : World} (base : Nat) (hgd : o.guard = none) (s x : Operand) (t e : TypeId) (z : Value) (bytes : Nat)
    (ho : o.op = .call { callee := .builtin .append, args := #[s, x], argTypes := #[t, t] })
    (ht : P.underlying t = some (.slice e)) (hinfo : (P.info? e).map (fun i => (i.zero, i.size, i.bytes)) = some (some z, d.sz, bytes)) (hz : z.cells.size = d.sz) (hs0 : 0 < d.sz) (hb0 : 0 < bytes)
    (v : Value) (xs ys : List α) (A : Option Addr) (m c : Nat) (ok okp : Nat → Prop) (hs : a.eval s = v) (hx : a.eval x = .slice A m c)
    (HO : Kd.S d e W base (fun k => ok k ∧ ¬ okp k) v xs) (HR : Kd.S d e W base okp (.slice A m c) ys) (hokp : ∀ k, okp k → ok k ∧ some k ≠ v.ownBlock) (hfresh : ∀ k, W.heap.size ≤ k → ok k)
    (HB : Below base w0 W) (hbase : base ≤ W.heap.size) (hl : (xs.length + m) * bytes ≤ 140737488355328)
    (h : ∀ v1 w1, Kd.S d e w1 base ok v1 (xs ++ ys) → Below base w0 w1 → W.grownBy w1 v.ownBlock → (v1.ownBlock = v.ownBlock ∨ ∃ b, v1.ownBlock = some b ∧ W.heap.size ≤ b) → wpList P ops Q rest (a.put o.dst v1) w1) :
    wpList P ops Q (o :: rest) a W := by
  obtain ⟨f, h1, h2⟩ := S_join HO HR
  refine Kd.R_append_rows (Kd.tag f d) base hgd s x t e z bytes ho ht hinfo hz hs0 hb0 v xs.zipIdx (ys.zipIdx xs.length) A m c ok okp hs hx (Kd.R_mono h1 (fun _ hk => hk.1)) h2 (fun _ _ h => h) hokp hfresh HB hbase (by rw [List.length_zipIdx]; exact hl) ?_
  intro v1 w1 hr
  rw [← zip_append] at hr
  exact h v1 w1 ⟨f, hr⟩
theorem S_append_rows_step (d : Kd α) {w0 W : World} (base : Nat) (hw : Region.wanted o (yielded ops a.tmps) = true) (s x : Operand) (t e : TypeId) (z : Value) (bytes : Nat)
    (ho : o.op = .call { callee := .builtin .append, args := #[s, x], argTypes := #[t, t] })
    (ht : P.underlying t = some (.slice e)) (hinfo : (P.info? e).map (fun i => (i.zero, i.size, i.bytes)) = some (some z, d.sz, bytes)) (hz : z.cells.size = d.sz) (hs0 : 0 < d.sz) (hb0 : 0 < bytes)
    (v : Value) (xs ys : List α) (A : Option Addr) (m c : Nat) (ok okp : Nat → Prop) (hs : a.eval s = v) (hx : a.eval x = .slice A m c)
    (HO : Kd.S d e W base (fun k => ok k ∧ ¬ okp k) v xs) (HR : Kd.S d e W base okp (.slice A m c) ys) (hokp : ∀ k, okp k → ok k ∧ some k ≠ v.ownBlock) (hfresh : ∀ k, W.heap.size ≤ k → ok k)
    (HB : Below base w0 W) (hbase : base ≤ W.heap.size) (hl : (xs.length + m) * bytes ≤ 140737488355328)
    (h : ∀ v1 w1, Kd.S d e w1 base ok v1 (xs ++ ys) → Below base w0 w1 → W.grownBy w1 v.ownBlock → (v1.ownBlock = v.ownBlock ∨ ∃ b, v1.ownBlock = some b ∧ W.heap.size ≤ b) → Kc (a.put o.dst v1) w1) :
    if Region.wanted o (yielded ops a.tmps) = true then Oper.wp P o a W Kc Q else Kc (a.put o.dst undef) W := by
  obtain ⟨f, h1, h2⟩ := S_join HO HR
  refine Kd.R_append_rows_step (Kd.tag f d) base hw s x t e z bytes ho ht hinfo hz hs0 hb0 v xs.zipIdx (ys.zipIdx xs.length) A m c ok okp hs hx (Kd.R_mono h1 (fun _ hk => hk.1)) h2 (fun _ _ h => h) hokp hfresh HB hbase (by rw [List.length_zipIdx]; exact hl) ?_
  intro v1 w1 hr
  rw [← zip_append] at hr
  exact h v1 w1 ⟨f, hr⟩
end
end Go.Proofs.Yteflgifmdojahaa.KitX
