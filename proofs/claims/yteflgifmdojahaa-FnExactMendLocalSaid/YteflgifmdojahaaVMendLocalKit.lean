/- Small words for printed functions: what is told with rounds enough (Ev), and lists of numbers; no program stands here. -/
import Derived.Test.YteflgifmdojahaaVMendLocalWMore
import Derived.Test.YteflgifmdojahaaVMendLocalGf
namespace Go.Proofs.Yteflgifmdojahaa.Kit
open Go.RowKit Go.Proofs.YteflgifmdojahaaW.PrintWords Go.Proofs.YteflgifmdojahaaW.PrintLast Go.Proofs.Yteflgifmdojahaa.Gf
set_option linter.unusedVariables false
set_option linter.unusedSimpArgs false

section
variable {α β : Type} {g h : Nat→Option α} {r r' : α} {c : Prop} [Decidable c]
theorem ev_pos (hc : c) (e : Ev g r) : Ev (fun k=>if c then g k else h k) r:=by simp only [if_pos hc];exact e
theorem ev_neg (hc : ¬ c) (e : Ev h r) : Ev (fun k=>if c then g k else h k) r:=by simp only [if_neg hc];exact e
theorem ev_now (e : r=r') : Ev (fun _=>some r) r':=by subst e;exact Ev.now r
theorem ev_eq (e : Ev g r) (he : r=r') : Ev g r':=he ▸ e
theorem ev_bind {g : Nat→Option α} {f : Nat→α→Option β} {a : α} {r : β} (h : Ev g a) (k : Ev (fun n=>f n a) r) : Ev (fun n=>(g n).bind (f n)) r:=Ev.bind h k
end
/-- What a list holds at a place. -/
theorem rd_nat (xs : List Int) (i : Nat) : rd xs (i : Int)=xs.getD i 0:=by unfold rd;simp
theorem rd_get {xs : List Int} {i : Nat} (h : i < xs.length) : rd xs (i : Int)=xs[i]:=by rw [rd_nat];simp [List.getD,h]
theorem bytes_get {xs : List Int} (hb : Bytes xs) {i : Nat} (h : i < xs.length) : Byte xs[i]:=hb _ (List.getElem_mem h)
theorem bytes_rd {xs : List Int} (hb : Bytes xs) {i : Nat} (h : i < xs.length) : Byte (rd xs (i : Int)):=by rw [rd_get h];exact bytes_get hb h
theorem inc {i : Nat} (h : i < 4611686018427387904) : wrap64 ((i : Int)+1)=((i+1 : Nat) : Int):=by unfold wrap64;omega
/-- Sums of two rows. -/
def addV (v w : List Int) : List Int:=List.zipWith gx v w
theorem addV_length (v w : List Int) : (addV v w).length=min v.length w.length:=by simp [addV]
theorem _root_.Go.Proofs.Yteflgifmdojahaa.Gf.Bytes.nil : Bytes []:=by intro x hx;simp at hx
theorem _root_.Go.Proofs.Yteflgifmdojahaa.Gf.Bytes.append {v w : List Int} (hv : Bytes v) (hw : Bytes w) : Bytes (v ++ w):=by
  intro x hx
  rcases List.mem_append.1 hx with h | h
  · exact hv x h
  · exact hw x h
theorem _root_.Go.Proofs.Yteflgifmdojahaa.Gf.Bytes.one {x : Int} (hx : Byte x) : Bytes [x]:=by intro y hy;simp at hy;subst hy;exact hx
theorem _root_.Go.Proofs.Yteflgifmdojahaa.Gf.Bytes.cons {x : Int} {l : List Int} (hx : Byte x) (hl : Bytes l) : Bytes (x :: l):=by
  intro y hy
  rcases List.mem_cons.1 hy with rfl | h
  · exact hx
  · exact hl y h
theorem _root_.Go.Proofs.Yteflgifmdojahaa.Gf.Bytes.drop {l : List Int} (h : Bytes l) (n : Nat) : Bytes (l.drop n):=fun x hx=>h x (List.mem_of_mem_drop hx)
theorem _root_.Go.Proofs.Yteflgifmdojahaa.Gf.Bytes.take {l : List Int} (h : Bytes l) (n : Nat) : Bytes (l.take n):=fun x hx=>h x (List.mem_of_mem_take hx)
/-! ### Codes' sizes -/
abbrev GoodLocal (g e m : Int) : Prop:=((1≤g∧g≤4)∧1≤e∧e≤4)∧g*e≤8∧1≤m∧m≤4
theorem small_mul {g e : Int} (h : (1≤g∧g≤4)∧1≤e∧e≤4) : wrap64 (g*e)=g*e∧1≤g*e∧g*e≤16:=by
  obtain ⟨⟨h1,h2⟩,h3,h4⟩:=h
  have : g=1∨g=2∨g=3∨g=4:=by omega
  rcases this with rfl | rfl | rfl | rfl <;> (unfold wrap64;omega)
/-- The group of a shard, -1 for none. -/
def groupOf (g e no : Int) : Int:=if 0≤no∧no≤g*e - 1 then no / e else if g*e≤no∧no≤g*e+g - 1 then no - g*e else -1
theorem groupOf_neg {g e m : Int} (h : GoodLocal g e m) (no : Int) : groupOf g e no < 0↔¬ (0≤no∧no≤g*e+g - 1):=by
  have hm:=small_mul h.1
  obtain ⟨⟨⟨hg1,hg2⟩,he1,he2⟩,h8,_⟩:=h
  unfold groupOf
  split
  · rename_i c
    have : 0≤no / e:=Int.ediv_nonneg c.1 (by omega)
    omega
  · split <;> omega
def groupVal (g e m no : Int) : Int × Bool:=if GoodLocal g e m∧0≤no∧no≤g*e+g - 1 then (groupOf g e no,true) else (0,false)
/-! ### Rows of rows -/
def idM (n : Nat) : List (List Int):=(List.range n).map fun i=>(List.replicate n 0).set i 1
end Go.Proofs.Yteflgifmdojahaa.Kit
-- SQUEEZED
