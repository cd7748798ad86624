/- Small words for printed functions: what is told with rounds enough (Ev), and lists of numbers; no program stands here. -/
import Derived.Test.YtajikfnpcobnpaaVDecodeMsrWMore
import Derived.Test.YtajikfnpcobnpaaVDecodeMsrGf
namespace Go.Proofs.Ytajikfnpcobnpaa.Kit
open Go.RowKit Go.Proofs.YtajikfnpcobnpaaW.PrintWords Go.Proofs.YtajikfnpcobnpaaW.PrintLast Go.Proofs.Ytajikfnpcobnpaa.Gf
set_option linter.unusedVariables false
set_option linter.unusedSimpArgs false

section
variable {α β : Type} {g h : Nat→Option α} {r r' : α} {c : Prop} [Decidable c]
theorem ev_pos (hc : c) (e : Ev g r) : Ev (fun k=>if c then g k else h k) r:=by simp only [if_pos hc];exact e
theorem ev_neg (hc : ¬ c) (e : Ev h r) : Ev (fun k=>if c then g k else h k) r:=by simp only [if_neg hc];exact e
theorem ev_now (e : r=r') : Ev (fun _=>some r) r':=by subst e;exact Ev.now r
theorem ev_eq (e : Ev g r) (he : r=r') : Ev g r':=he ▸ e
theorem ev_bind {g : Nat→Option α} {f : Nat→α→Option β} {a : α} {r : β} (h : Ev g a) (k : Ev (fun n=>f n a) r) : Ev (fun n=>(g n).bind (f n)) r:=Ev.bind h k
end
/-- What a list holds at a place. -/
theorem rd_nat (xs : List Int) (i : Nat) : rd xs (i : Int)=xs.getD i 0:=by unfold rd;simp
theorem rd_get {xs : List Int} {i : Nat} (h : i < xs.length) : rd xs (i : Int)=xs[i]:=by rw [rd_nat];simp [List.getD,h]
theorem bytes_get {xs : List Int} (hb : Bytes xs) {i : Nat} (h : i < xs.length) : Byte xs[i]:=hb _ (List.getElem_mem h)
theorem bytes_rd {xs : List Int} (hb : Bytes xs) {i : Nat} (h : i < xs.length) : Byte (rd xs (i : Int)):=by rw [rd_get h];exact bytes_get hb h
theorem inc {i : Nat} (h : i < 4611686018427387904) : wrap64 ((i : Int)+1)=((i+1 : Nat) : Int):=by unfold wrap64;omega
/-- The numbers that mark a row of bytes. -/
def markB (a : Int) (n : Nat) : List Int:=(List.range n).map fun i=>(a+(i : Nat)) % 256
theorem markB_length (a : Int) (n : Nat) : (markB a n).length=n:=by simp [markB]
theorem markB_get (a : Int) (n i : Nat) (h : i < (markB a n).length) : (markB a n)[i]=(a+(i : Nat)) % 256:=by simp [markB]
theorem take_set_succ (l : List Int) (i : Nat) (v : Int) (h : i < l.length) : (l.set i v).take (i+1)=l.take i ++ [v]:=by
  rw [List.take_succ_eq_append_getElem (by simpa using h)]
  simp [List.take_set_of_le]
/-- Sums of two rows. -/
def addV (v w : List Int) : List Int:=List.zipWith gx v w
theorem addV_length (v w : List Int) : (addV v w).length=min v.length w.length:=by simp [addV]
theorem addV_bytes {v w : List Int} (hv : Bytes v) (hw : Bytes w) : Bytes (addV v w):=by
  intro x hx
  obtain ⟨i,hi,rfl⟩:=List.getElem_of_mem hx
  simp only [addV,List.getElem_zipWith]
  simp only [addV,List.length_zipWith] at hi
  exact Byte.gx (bytes_get hv (by omega)) (bytes_get hw (by omega))
/-- A row times a byte. -/
def scale (a : Int) (v : List Int) : List Int:=v.map (mul a)
theorem scale_length (a : Int) (v : List Int) : (scale a v).length=v.length:=by simp [scale]
theorem scale_bytes {a : Int} (ha : Byte a) (v : List Int) : Bytes (scale a v):=by
  intro x hx
  simp only [scale,List.mem_map] at hx
  obtain ⟨y,_,rfl⟩:=hx
  exact Byte.mul ha y
/-- The sum of the products. -/
def dotV : List Int→List Int→Int
  | x :: v,y :: w=>gx (mul x y) (dotV v w)
  | _,_=>0
theorem dotV_byte {v w : List Int} (hv : Bytes v) : Byte (dotV v w):=by
  induction v generalizing w with
  | nil=>exact .zero
  | cons x v ih =>
    cases w with
    | nil=>exact .zero
    | cons y w=>exact Byte.gx (Byte.mul (hv x (by simp)) y) (ih (fun z hz=>hv z (by simp [hz])))
theorem _root_.Go.Proofs.Ytajikfnpcobnpaa.Gf.Bytes.nil : Bytes []:=by intro x hx;simp at hx
theorem _root_.Go.Proofs.Ytajikfnpcobnpaa.Gf.Bytes.append {v w : List Int} (hv : Bytes v) (hw : Bytes w) : Bytes (v ++ w):=by
  intro x hx
  rcases List.mem_append.1 hx with h | h
  · exact hv x h
  · exact hw x h
theorem _root_.Go.Proofs.Ytajikfnpcobnpaa.Gf.Bytes.one {x : Int} (hx : Byte x) : Bytes [x]:=by intro y hy;simp at hy;subst hy;exact hx
theorem _root_.Go.Proofs.Ytajikfnpcobnpaa.Gf.Bytes.cons {x : Int} {l : List Int} (hx : Byte x) (hl : Bytes l) : Bytes (x :: l):=by
  intro y hy
  rcases List.mem_cons.1 hy with rfl | h
  · exact hx
  · exact hl y h
theorem _root_.Go.Proofs.Ytajikfnpcobnpaa.Gf.Bytes.drop {l : List Int} (h : Bytes l) (n : Nat) : Bytes (l.drop n):=fun x hx=>h x (List.mem_of_mem_drop hx)
theorem _root_.Go.Proofs.Ytajikfnpcobnpaa.Gf.Bytes.take {l : List Int} (h : Bytes l) (n : Nat) : Bytes (l.take n):=fun x hx=>h x (List.mem_of_mem_take hx)
theorem drop_cons {α : Type} {l : List α} {i : Nat} (h : i < l.length) : l.drop i=l[i] :: l.drop (i+1):=List.drop_eq_getElem_cons h
/-! ### Codes' sizes -/
abbrev GoodMsr (n k : Int) : Prop:=(2≤k∧k≤4)∧2*k - 1≤n∧n≤14
/-- A node's number, its powers, its row. -/
def nodeX (j : Nat) : Int:=pow 3 (j+1)
theorem byte3 : Byte 3:=⟨by decide,by decide⟩
theorem nodeX_byte (j : Nat) : Byte (nodeX j):=Byte.pow byte3 _
def shortR (a j : Nat) : List Int:=(List.range a).map fun i=>pow (nodeX j) i
theorem shortR_length (a j : Nat) : (shortR a j).length=a:=by simp [shortR]
theorem shortR_bytes (a j : Nat) : Bytes (shortR a j):=by
  intro x hx
  simp only [shortR,List.mem_map] at hx
  obtain ⟨i,_,rfl⟩:=hx
  exact Byte.pow (nodeX_byte j) i
theorem shortR_succ (a j i : Nat) (h : i < a) : (shortR a j).take (i+1)=(shortR a j).take i ++ [pow (nodeX j) i]:=by
  rw [List.take_succ_eq_append_getElem (by rw [shortR_length];exact h)]
  simp [shortR]
def msrRow (a j : Nat) : List Int:=shortR a j ++ scale (pow (nodeX j) a) (shortR a j)
theorem msrRow_length (a j : Nat) : (msrRow a j).length=2*a:=by simp [msrRow,shortR_length,scale_length];omega
theorem msrRow_bytes (a j : Nat) : Bytes (msrRow a j):=(shortR_bytes a j).append (scale_bytes (Byte.pow (nodeX_byte j) a) _)
theorem GoodMsr_nat {n k : Int} (h : GoodMsr n k) : ∃ a m : Nat,k=(a+1 : Nat)∧n=(m : Nat)∧1≤a∧a≤3∧2*a+1≤m∧m≤14:=⟨k.toNat - 1,n.toNat,by omega,by omega,by omega,by omega,by omega,by omega⟩
/-- The numbers that mark a row of whole numbers. -/
def markI (a : Int) (n : Nat) : List Int:=(List.range n).map fun i=>a+(i : Nat)
theorem markI_length (a : Int) (n : Nat) : (markI a n).length=n:=by simp [markI]
def sumOver (f : Nat→Int) : Nat→Int
  | 0=>0
  | n+1=>gx (sumOver f n) (f n)
theorem sumOver_byte {f : Nat→Int} : ∀ n,(∀ j,j < n→Byte (f j))→Byte (sumOver f n)
  | 0,_=>.zero
  | n+1,h=>Byte.gx (sumOver_byte n (fun j hj=>h j (by omega))) (h n (by omega))
theorem sumOver_congr {f g : Nat→Int} : ∀ n,(∀ j,j < n→f j=g j)→sumOver f n=sumOver g n
  | 0,_=>rfl
  | n+1,h=>by unfold sumOver;rw [sumOver_congr n (fun j hj=>h j (by omega)),h n (by omega)]
/-- Rows marked, one behind the other. -/
def markSS : Int→List (List Int)→List (List Int)
  | _,[]=>[]
  | a,l :: ls=>markB a l.length :: markSS (a+(l.length : Nat)) ls
theorem markSS_length (a : Int) (l : List (List Int)) : (markSS a l).length=l.length:=by
  induction l generalizing a with
  | nil=>rfl
  | cons x l ih=>simp [markSS,ih]
/-! ### Rows of rows -/
def blankM (n m : Nat) : List (List Int):=List.replicate n (List.replicate m 0)
def idM (n : Nat) : List (List Int):=(List.range n).map fun i=>(List.replicate n 0).set i 1
/-- Are rows those of a matrix: 1 to 16 of them, all of one length of 1 to 16? -/
def goodM (l : List (List Int)) : Bool:=decide (1≤l.length∧l.length≤16∧1≤(l.getD 0 []).length∧(l.getD 0 []).length≤16) && !((List.range l.length).any fun i=>(l.getD i []).length != (l.getD 0 []).length)
theorem goodM_iff {l : List (List Int)} (h : goodM l=true) : (1≤l.length∧l.length≤16)∧(1≤(l.getD 0 []).length∧(l.getD 0 []).length≤16)∧∀ i,i < l.length→(l.getD i []).length=(l.getD 0 []).length:=by
  unfold goodM at h
  rw [Bool.and_eq_true,decide_eq_true_eq] at h
  obtain ⟨h1,h2⟩:=h
  refine ⟨⟨h1.1,h1.2.1⟩,h1.2.2,fun i hi=>?_⟩
  have h3 : ((List.range l.length).any fun i=>(l.getD i []).length != (l.getD 0 []).length)=false:=by simpa using h2
  rw [List.any_eq_false] at h3
  have:=h3 i (by simpa using hi)
  simpa using this
/-- Rows told place by place. -/
def tab (n m : Nat) (f : Nat→Nat→Int) : List (List Int):=(List.range n).map fun i=>(List.range m).map (f i)
theorem tab_length (n m : Nat) (f : Nat→Nat→Int) : (tab n m f).length=n:=by simp [tab]
theorem tab_getD {n m : Nat} {f : Nat→Nat→Int} {i : Nat} (h : i < n) : (tab n m f).getD i []=(List.range m).map (f i):=by simp [tab,List.getD,h]
theorem tab_getD_length {n m : Nat} {f : Nat→Nat→Int} {i : Nat} (h : i < n) : ((tab n m f).getD i []).length=m:=by rw [tab_getD h];simp
theorem tab_get2 {n m : Nat} {f : Nat→Nat→Int} {i j : Nat} (h : i < n) (h2 : j < m) : ((tab n m f).getD i []).getD j 0=f i j:=by rw [tab_getD h];simp [List.getD,h2]
theorem tab_congr {n m : Nat} {f g : Nat→Nat→Int} (h : ∀ i,i < n→∀ j,j < m→f i j=g i j) : tab n m f=tab n m g:=by
  unfold tab
  apply List.map_congr_left
  intro i hi
  apply List.map_congr_left
  intro j hj
  exact h i (by simpa using hi) j (by simpa using hj)
theorem row_set {m : Nat} {f : Nat→Int} {j : Nat} {v : Int} : ((List.range m).map f).set j v=(List.range m).map fun b=>if b=j then v else f b:=by
  apply List.ext_getElem
  · simp
  · intro b h1 h2
    rw [List.getElem_set]
    by_cases e : j=b
    · subst e;simp
    · rw [if_neg e]
      have e2 : ¬ b=j:=fun z=>e z.symm
      simp [e2]
theorem tab_set {n m : Nat} {f : Nat→Nat→Int} {i j : Nat} {v : Int} (h : i < n) : (tab n m f).set i (((tab n m f).getD i []).set j v)=tab n m fun a b=>if a=i∧b=j then v else f a b:=by
  rw [tab_getD h,row_set]
  apply List.ext_getElem
  · simp [tab]
  · intro a h1 h2
    rw [List.getElem_set]
    by_cases e : i=a
    · subst e
      simp [tab]
    · rw [if_neg e]
      have e2 : ¬ a=i:=fun z=>e z.symm
      simp [tab,e2]
theorem tab_blank (n m : Nat) : blankM n m=tab n m fun _ _=>0:=by
  apply List.ext_getElem
  · simp [blankM,tab]
  · intro i h1 h2
    simp only [blankM,tab,List.getElem_replicate,List.getElem_map]
    apply List.ext_getElem
    · simp
    · intro j h3 h4;simp
/-- Rows and columns exchanged. -/
def trM (l : List (List Int)) : List (List Int):=tab (l.getD 0 []).length l.length fun j i=>(l.getD i []).getD j 0
end Go.Proofs.Ytajikfnpcobnpaa.Kit
-- SQUEEZED
