/- Small words for printed functions: what is told with rounds enough (Ev), and lists of numbers; no program stands here. -/
import Derived.Test.YtajikfnpcobnpaaVRegeneratePieceWMore
import Derived.Test.YtajikfnpcobnpaaVRegeneratePieceGf
namespace Go.Proofs.Ytajikfnpcobnpaa.Kit
open Go.RowKit Go.Proofs.YtajikfnpcobnpaaW.PrintWords Go.Proofs.YtajikfnpcobnpaaW.PrintLast Go.Proofs.Ytajikfnpcobnpaa.Gf
set_option linter.unusedVariables false
set_option linter.unusedSimpArgs false

section
variable {α β : Type} {g h : Nat→Option α} {r r' : α} {c : Prop} [Decidable c]
theorem ev_pos (hc : c) (e : Ev g r) : Ev (fun k=>if c then g k else h k) r:=by simp only [if_pos hc];exact e
theorem ev_neg (hc : ¬ c) (e : Ev h r) : Ev (fun k=>if c then g k else h k) r:=by simp only [if_neg hc];exact e
theorem ev_now (e : r=r') : Ev (fun _=>some r) r':=by subst e;exact Ev.now r
theorem ev_eq (e : Ev g r) (he : r=r') : Ev g r':=he ▸ e
theorem ev_bind {g : Nat→Option α} {f : Nat→α→Option β} {a : α} {r : β} (h : Ev g a) (k : Ev (fun n=>f n a) r) : Ev (fun n=>(g n).bind (f n)) r:=Ev.bind h k
end
/-- What a list holds at a place. -/
theorem rd_nat (xs : List Int) (i : Nat) : rd xs (i : Int)=xs.getD i 0:=by unfold rd;simp
theorem rd_get {xs : List Int} {i : Nat} (h : i < xs.length) : rd xs (i : Int)=xs[i]:=by rw [rd_nat];simp [List.getD,h]
theorem bytes_get {xs : List Int} (hb : Bytes xs) {i : Nat} (h : i < xs.length) : Byte xs[i]:=hb _ (List.getElem_mem h)
theorem bytes_rd {xs : List Int} (hb : Bytes xs) {i : Nat} (h : i < xs.length) : Byte (rd xs (i : Int)):=by rw [rd_get h];exact bytes_get hb h
theorem inc {i : Nat} (h : i < 4611686018427387904) : wrap64 ((i : Int)+1)=((i+1 : Nat) : Int):=by unfold wrap64;omega
/-- The numbers that mark a row of bytes. -/
def markB (a : Int) (n : Nat) : List Int:=(List.range n).map fun i=>(a+(i : Nat)) % 256
theorem markB_length (a : Int) (n : Nat) : (markB a n).length=n:=by simp [markB]
theorem markB_get (a : Int) (n i : Nat) (h : i < (markB a n).length) : (markB a n)[i]=(a+(i : Nat)) % 256:=by simp [markB]
theorem take_set_succ (l : List Int) (i : Nat) (v : Int) (h : i < l.length) : (l.set i v).take (i+1)=l.take i ++ [v]:=by
  rw [List.take_succ_eq_append_getElem (by simpa using h)]
  simp [List.take_set_of_le]
/-- Sums of two rows. -/
def addV (v w : List Int) : List Int:=List.zipWith gx v w
theorem addV_length (v w : List Int) : (addV v w).length=min v.length w.length:=by simp [addV]
theorem addV_bytes {v w : List Int} (hv : Bytes v) (hw : Bytes w) : Bytes (addV v w):=by
  intro x hx
  obtain ⟨i,hi,rfl⟩:=List.getElem_of_mem hx
  simp only [addV,List.getElem_zipWith]
  simp only [addV,List.length_zipWith] at hi
  exact Byte.gx (bytes_get hv (by omega)) (bytes_get hw (by omega))
/-- A row times a byte. -/
def scale (a : Int) (v : List Int) : List Int:=v.map (mul a)
theorem scale_length (a : Int) (v : List Int) : (scale a v).length=v.length:=by simp [scale]
theorem scale_bytes {a : Int} (ha : Byte a) (v : List Int) : Bytes (scale a v):=by
  intro x hx
  simp only [scale,List.mem_map] at hx
  obtain ⟨y,_,rfl⟩:=hx
  exact Byte.mul ha y
/-- The sum of the products. -/
def dotV : List Int→List Int→Int
  | x :: v,y :: w=>gx (mul x y) (dotV v w)
  | _,_=>0
theorem dotV_byte {v w : List Int} (hv : Bytes v) : Byte (dotV v w):=by
  induction v generalizing w with
  | nil=>exact .zero
  | cons x v ih =>
    cases w with
    | nil=>exact .zero
    | cons y w=>exact Byte.gx (Byte.mul (hv x (by simp)) y) (ih (fun z hz=>hv z (by simp [hz])))
theorem _root_.Go.Proofs.Ytajikfnpcobnpaa.Gf.Bytes.nil : Bytes []:=by intro x hx;simp at hx
theorem _root_.Go.Proofs.Ytajikfnpcobnpaa.Gf.Bytes.append {v w : List Int} (hv : Bytes v) (hw : Bytes w) : Bytes (v ++ w):=by
  intro x hx
  rcases List.mem_append.1 hx with h | h
  · exact hv x h
  · exact hw x h
theorem _root_.Go.Proofs.Ytajikfnpcobnpaa.Gf.Bytes.one {x : Int} (hx : Byte x) : Bytes [x]:=by intro y hy;simp at hy;subst hy;exact hx
theorem _root_.Go.Proofs.Ytajikfnpcobnpaa.Gf.Bytes.cons {x : Int} {l : List Int} (hx : Byte x) (hl : Bytes l) : Bytes (x :: l):=by
  intro y hy
  rcases List.mem_cons.1 hy with rfl | h
  · exact hx
  · exact hl y h
theorem _root_.Go.Proofs.Ytajikfnpcobnpaa.Gf.Bytes.drop {l : List Int} (h : Bytes l) (n : Nat) : Bytes (l.drop n):=fun x hx=>h x (List.mem_of_mem_drop hx)
theorem _root_.Go.Proofs.Ytajikfnpcobnpaa.Gf.Bytes.take {l : List Int} (h : Bytes l) (n : Nat) : Bytes (l.take n):=fun x hx=>h x (List.mem_of_mem_take hx)
theorem drop_cons {α : Type} {l : List α} {i : Nat} (h : i < l.length) : l.drop i=l[i] :: l.drop (i+1):=List.drop_eq_getElem_cons h
/-! ### Codes' sizes -/
abbrev GoodMsr (n k : Int) : Prop:=(2≤k∧k≤4)∧2*k - 1≤n∧n≤14
/-- A node's number, its powers, its row. -/
def nodeX (j : Nat) : Int:=pow 3 (j+1)
theorem byte3 : Byte 3:=⟨by decide,by decide⟩
theorem nodeX_byte (j : Nat) : Byte (nodeX j):=Byte.pow byte3 _
def shortR (a j : Nat) : List Int:=(List.range a).map fun i=>pow (nodeX j) i
theorem shortR_length (a j : Nat) : (shortR a j).length=a:=by simp [shortR]
theorem shortR_bytes (a j : Nat) : Bytes (shortR a j):=by
  intro x hx
  simp only [shortR,List.mem_map] at hx
  obtain ⟨i,_,rfl⟩:=hx
  exact Byte.pow (nodeX_byte j) i
theorem shortR_succ (a j i : Nat) (h : i < a) : (shortR a j).take (i+1)=(shortR a j).take i ++ [pow (nodeX j) i]:=by
  rw [List.take_succ_eq_append_getElem (by rw [shortR_length];exact h)]
  simp [shortR]
def msrRow (a j : Nat) : List Int:=shortR a j ++ scale (pow (nodeX j) a) (shortR a j)
theorem msrRow_length (a j : Nat) : (msrRow a j).length=2*a:=by simp [msrRow,shortR_length,scale_length];omega
theorem msrRow_bytes (a j : Nat) : Bytes (msrRow a j):=(shortR_bytes a j).append (scale_bytes (Byte.pow (nodeX_byte j) a) _)
theorem GoodMsr_nat {n k : Int} (h : GoodMsr n k) : ∃ a m : Nat,k=(a+1 : Nat)∧n=(m : Nat)∧1≤a∧a≤3∧2*a+1≤m∧m≤14:=⟨k.toNat - 1,n.toNat,by omega,by omega,by omega,by omega,by omega,by omega⟩
/-! ### Rows of rows -/
def blankM (n m : Nat) : List (List Int):=List.replicate n (List.replicate m 0)
def idM (n : Nat) : List (List Int):=(List.range n).map fun i=>(List.replicate n 0).set i 1
/-- Are rows those of a matrix: 1 to 16 of them, all of one length of 1 to 16? -/
def goodM (l : List (List Int)) : Bool:=decide (1≤l.length∧l.length≤16∧1≤(l.getD 0 []).length∧(l.getD 0 []).length≤16) && !((List.range l.length).any fun i=>(l.getD i []).length != (l.getD 0 []).length)
theorem goodM_iff {l : List (List Int)} (h : goodM l=true) : (1≤l.length∧l.length≤16)∧(1≤(l.getD 0 []).length∧(l.getD 0 []).length≤16)∧∀ i,i < l.length→(l.getD i []).length=(l.getD 0 []).length:=by
  unfold goodM at h
  rw [Bool.and_eq_true,decide_eq_true_eq] at h
  obtain ⟨h1,h2⟩:=h
  refine ⟨⟨h1.1,h1.2.1⟩,h1.2.2,fun i hi=>?_⟩
  have h3 : ((List.range l.length).any fun i=>(l.getD i []).length != (l.getD 0 []).length)=false:=by simpa using h2
  rw [List.any_eq_false] at h3
  have:=h3 i (by simpa using hi)
  simpa using this
end Go.Proofs.Ytajikfnpcobnpaa.Kit
-- SQUEEZED
