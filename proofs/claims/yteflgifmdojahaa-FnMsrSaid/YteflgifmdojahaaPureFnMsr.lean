/- Any k pieces of drawn data give the data back, the message's matrix and the nodes' rows give each piece, and the sizes are those the shape tells, for all drawn shapes; there is no condition. -/
import Derived.Test.YteflgifmdojahaaPFnMsrx8
import Derived.Test.YteflgifmdojahaaVFnMsrA
import Derived.Test.YteflgifmdojahaaVFnMsrC
namespace Go.Proofs.Yteflgifmdojahaa.Pure
open Go.RowKit Go.Proofs.Yteflgifmdojahaa.PFnMsr Go.Proofs.YteflgifmdojahaaW.PrintWords Go.Proofs.YteflgifmdojahaaW.PrintLast Go.Proofs.Yteflgifmdojahaa.Gf Go.Proofs.Yteflgifmdojahaa.Kit Go.Proofs.Yteflgifmdojahaa.KitW
open Go.Proofs.Yteflgifmdojahaa.KitN hiding idM_length
set_option linter.unusedVariables false
set_option linter.unusedSimpArgs false

theorem low255 (y : Int) : 0≤wrap64 (Go.bits .and .u64 y 255)∧wrap64 (Go.bits .and .u64 y 255)≤255:=by
 have e : Go.bits .and .u64 y 255=IntKind.u64.wrap (((BitVec.ofInt 64 y &&& BitVec.ofInt 64 255).toNat : Nat) : Int):=rfl
 have h : (BitVec.ofInt 64 y &&& BitVec.ofInt 64 255).toNat≤255:=by
  rw [BitVec.toNat_and]
  exact Nat.le_trans Nat.and_le_right (by decide)
 rw [e]
 generalize (BitVec.ofInt 64 y &&& BitVec.ofInt 64 255).toNat=n at h
 have e2 : IntKind.u64.wrap (n : Int)=(n : Int):=by
  first
   | (rw [IntKind.wrap_u64];omega)
   | (simp [IntKind.wrap,IntKind.bits,IntKind.signed];omega)
 rw [e2,wrap_id (by omega) (by omega)]
 omega
theorem spec_l1Cur_next.some_ {s : List Int} (hs : Bytes s) {a z : Int} (h0 : 0≤a) (h1 : a≤4611686018427387904) : ∃ x z',spec_l1Cur_next.f s a z=some (x,a+1,z')∧0≤x∧x≤255:=by
 unfold spec_l1Cur_next.f
 have e : wrap64 (a+1)=a+1:=wrap_id (by omega) (by omega)
 rw [e]
 by_cases c1 : a < (s.length : Int)
 ·rw [if_pos c1,if_pos h0,if_pos (show a+1≤(s.length : Int) by omega)]
  refine ⟨_,_,rfl,?_⟩
  have hb : Byte (rd s a):=by
   obtain ⟨i,rfl⟩:=Int.eq_ofNat_of_zero_le h0
   have hi : i < s.length:=by omega
   rw [rd_nat,List.getD_eq_getElem?_getD,List.getElem?_eq_getElem hi]
   exact hs _ (List.getElem_mem hi)
  have hb1:=hb.1
  have hb2:=hb.2
  rw [wrap_id hb1 (by omega)]
  omega
 ·rw [if_neg c1,if_neg (show ¬ a+1≤(s.length : Int) by omega)]
  exact ⟨_,_,rfl,low255 _⟩

theorem spec_l1Cur_pick.some_ {s : List Int} (hs : Bytes s) {a z n : Int} (h0 : 0≤a) (h1 : a≤4611686018427387000) (hn : 1≤n) : ∃ x b z',spec_l1Cur_pick.f s a z n=some (x,b,z')∧0≤x∧x < n∧a≤b∧b≤a+2:=by
 unfold spec_l1Cur_pick.f
 by_cases c1 : n≤1
 ·rw [if_pos c1]
  exact ⟨_,_,_,rfl,by omega,by omega,by omega,by omega⟩
 ·rw [if_neg c1]
  obtain ⟨x,z1,e,hx0,hx1⟩:=spec_l1Cur_next.some_ hs (z:=z) h0 (by omega)
  rw [e,Option.bind_some]
  dsimp only
  by_cases c2 : n > 200
  ·rw [if_pos c2]
   obtain ⟨y,z2,e2,hy0,hy1⟩:=spec_l1Cur_next.some_ hs (a:=a+1) (z:=z1) (by omega) (by omega)
   rw [e2,Option.bind_some,if_neg (by omega)]
   refine ⟨_,a+1+1,_,rfl,?_,Int.tmod_lt_of_pos _ (by omega),by omega,by omega⟩
   rw [wrap_id (i:=x*256) (by omega) (by omega),wrap_id (by omega) (by omega)]
   exact Int.tmod_nonneg _ (by omega)
  ·rw [if_neg c2,if_neg (by omega)]
   exact ⟨_,a+1,_,rfl,Int.tmod_nonneg _ hx0,Int.tmod_lt_of_pos _ (by omega),by omega,by omega⟩

theorem spec_l1Cur_one.some_ {s : List Int} (hs : Bytes s) {a z n : Int} (h0 : 0≤a) (h1 : a≤4611686018427387000) (hn : 1≤n) : ∃ x b z',spec_l1Cur_one.f s a z n=some (x,b,z')∧a≤b∧b≤a+2:=by
 unfold spec_l1Cur_one.f
 obtain ⟨x,b,z1,e,hx0,hx1,hb0,hb1⟩:=spec_l1Cur_pick.some_ hs (z:=z) h0 h1 hn
 rw [e,Option.bind_some]
 exact ⟨_,_,_,rfl,hb0,hb1⟩

theorem spec_l1Cur_among.some_ {s : List Int} (hs : Bytes s) {a z : Int} {l : List Int} (h0 : 0≤a) (h1 : a≤4611686018427387000) (hl : 1≤l.length) : ∃ x b z',spec_l1Cur_among.f s a z l=some (x,b,z')∧a≤b∧b≤a+2:=by
 unfold spec_l1Cur_among.f
 obtain ⟨x,b,z1,e,hx0,hx1,hb0,hb1⟩:=spec_l1Cur_pick.some_ hs (z:=z) (n:=(l.length : Int)) h0 h1 (by omega)
 rw [e,Option.bind_some,if_pos hx0,if_pos hx1]
 exact ⟨_,_,_,rfl,hb0,hb1⟩

theorem spec_l1Cur_byte.some_ {s : List Int} (hs : Bytes s) {a z : Int} (h0 : 0≤a) (h1 : a≤4611686018427386000) : ∃ x b z',spec_l1Cur_byte.f s a z=some (x,b,z')∧Byte x∧a≤b∧b≤a+4:=by
 unfold spec_l1Cur_byte.f
 obtain ⟨x,b,z1,e,hb0,hb1⟩:=spec_l1Cur_one.some_ hs (z:=z) (n:=5) h0 (by omega) (by decide)
 rw [e,Option.bind_some]
 dsimp only
 have hm : ∀ v : Int,Byte (v % 256):=fun v=>⟨Int.emod_nonneg _ (by decide),Int.emod_lt_of_pos _ (by decide)⟩
 cases x with
 | true =>
  obtain ⟨y,c,z2,e2,hc0,hc1⟩:=spec_l1Cur_among.some_ hs (a:=b) (z:=z1) (l:=[0,1,2,3,255,27]) (by omega) (by omega) (by decide)
  rw [if_pos rfl,e2,Option.bind_some]
  exact ⟨_,c,_,rfl,hm _,by omega,by omega⟩
 | false =>
  obtain ⟨y,c,z2,e2,_,_,hc0,hc1⟩:=spec_l1Cur_pick.some_ hs (a:=b) (z:=z1) (n:=256) (by omega) (by omega) (by decide)
  rw [if_neg (by decide),e2,Option.bind_some]
  exact ⟨_,c,_,rfl,hm _,by omega,by omega⟩

set_option maxRecDepth 4000 in
theorem spec_l1Cur_vector.some_l0 {s : List Int} (hs : Bytes s) : ∀ (n : Nat) (o : List Int) (a z : Int),n≤100→0≤a→a+4*n≤4611686018427380000→o.length+n≤200→∃ r b z',Ev (fun k=>spec_l1Cur_vector.l0 k (n : Int) o s a z) (o ++ r,b,z')∧Bytes r∧r.length=n∧a≤b∧b≤a+4*n
 | 0,o,a,z,_,h0,h1,_=>by
  refine ⟨[],a,z,?_,fun x hx=>(by cases hx),rfl,by omega,by omega⟩
  refine Ev.step (fun k=>spec_l1Cur_vector.l0.eq_2 _ _ _ _ _ k) ?_
  refine ev_neg (by omega) (ev_now ?_)
  rw [List.append_nil]
 | n+1,o,a,z,hn,h0,h1,ho=>by
  obtain ⟨x,b,z1,e,hx,hb0,hb1⟩:=spec_l1Cur_byte.some_ hs (a:=a) (z:=z) h0 (by omega)
  obtain ⟨r,c,z2,he,hr,hrl,hc0,hc1⟩:=spec_l1Cur_vector.some_l0 hs n (o ++ [x]) b z1 (by omega) (by omega) (by omega) (by rw [List.length_append];simp;omega)
  refine ⟨x :: r,c,z2,?_,fun y hy=>?_,by rw [List.length_cons,hrl],by omega,by omega⟩
  ·refine Ev.step (fun k=>spec_l1Cur_vector.l0.eq_2 _ _ _ _ _ k) ?_
   refine ev_pos (by omega) ?_
   rw [e]
   simp only [Option.bind_some]
   refine ev_pos (by omega) ?_
   rw [show wrap64 (((n+1 : Nat) : Int) - 1)=(n : Int) by rw [wrap_id (by omega) (by omega)];omega]
   rw [List.append_assoc] at he
   exact he
  ·rcases List.mem_cons.1 hy with rfl | h
   ·exact hx
   ·exact hr y h
theorem spec_l1Cur_vector.some_ {s : List Int} (hs : Bytes s) {n a z : Int} (hn0 : 0≤n) (hn : n≤100) (h0 : 0≤a) (h1 : a≤4611686018427370000) : ∃ r b z',Ev (fun k=>spec_l1Cur_vector.f k s a z n) (r,b,z')∧Bytes r∧a≤b∧b≤a+400:=by
 obtain ⟨m,rfl⟩:=Int.eq_ofNat_of_zero_le hn0
 obtain ⟨r,b,z',he,hr,_,hb0,hb1⟩:=spec_l1Cur_vector.some_l0 hs m [] a z (by omega) h0 (by omega) (by simp;omega)
 exact ⟨r,b,z',he,hr,hb0,by omega⟩

theorem spec_l1Cur_vector.some_n {s : List Int} (hs : Bytes s) {a z : Int} (n : Nat) (hn : n≤100) (h0 : 0≤a) (h1 : a≤4611686018427370000) : ∃ r b z',Ev (fun k=>spec_l1Cur_vector.f k s a z (n : Int)) (r,b,z')∧Bytes r∧r.length=n∧a≤b∧b≤a+400:=by
 obtain ⟨r,b,z',he,hr,hl,hb0,hb1⟩:=spec_l1Cur_vector.some_l0 hs n [] a z hn h0 (by omega) (by simp;omega)
 exact ⟨r,b,z',he,hr,hl,hb0,by omega⟩

/-- Numbers from 0 on below n, rising. -/
def upTo (n : Nat) (l : List Int) : Prop:=(∀ x ∈ l,0≤x∧x < (n : Int))∧l.Pairwise (· < ·)
theorem upTo_nil (n : Nat) : upTo n []:=⟨(fun x hx=>by cases hx),List.Pairwise.nil⟩
theorem upTo_more {n m : Nat} {l : List Int} (h : upTo n l) (hm : n≤m) : upTo m l:=⟨fun x hx=>by have:=h.1 x hx;omega,h.2⟩
theorem upTo_snoc {n : Nat} {l : List Int} (h : upTo n l) : upTo (n+1) (l ++ [(n : Int)]):=by
 refine ⟨fun x hx=>?_,List.pairwise_append.2 ⟨h.2,List.pairwise_singleton _ _,fun x hx y hy=>?_⟩⟩
 ·rcases List.mem_append.1 hx with h2 | h2
  ·have:=h.1 x h2;omega
  ·simp at h2;omega
 ·simp at hy;subst hy
  exact (h.1 x hx).2
theorem upTo_rd {n : Nat} {l : List Int} (h : upTo n l) {j : Nat} (hj : j < l.length) : 0≤rd l (j : Int)∧rd l (j : Int) < (n : Int):=by
 rw [rd_get hj]
 exact h.1 _ (List.getElem_mem hj)
theorem upTo_lt {n : Nat} {l : List Int} (h : upTo n l) {i j : Nat} (hij : i < j) (hj : j < l.length) : rd l (i : Int) < rd l (j : Int):=by
 rw [rd_get hj,rd_get (by omega)]
 exact List.pairwise_iff_getElem.1 h.2 i j (by omega) hj hij
theorem upTo_rising {n : Nat} {l : List Int} (h : upTo n l) : rising l n=true:=by
 refine rising_yes fun j hj=>riseAt_yes ?_ ?_
 ·have:=upTo_rd h hj;omega
 ·by_cases e : j=0
  ·exact .inl e
  ·exact .inr (upTo_lt h (by omega) hj)
theorem upTo_len {n : Nat} {l : List Int} (h : upTo n l) : l.length≤n:=rising_len (upTo_rising h)

def spec_MsrSizes.val (n k : Int) : Int × Int × Int × Bool:=if GoodMsr n k then (k - 1,2*(k - 1),k*(k - 1),true) else (0,0,0,false)

def msrRowVal (n k j : Int) : List Int × Bool:=if GoodMsr n k∧0≤j∧j≤n - 1 then (msrRow (k - 1).toNat j.toNat,true) else ([],false)

theorem rdSS (l : List (List Int)) (i : Nat) (h : i < l.length) : rd_L3 l (i : Int)=l[i]:=by unfold rd_L3;simp [List.getD,h]
theorem rdSS0 (l : List (List Int)) (i : Int) : rd_L3 l i=l.getD i.toNat []:=rfl
theorem spec_l1Times.ev_l0 : ∀ (n o x y : Nat),y < 2 ^ n→n≤8→o < 256→x < 256 →
  Ev (fun k=>spec_l1Times.l0 k (o : Int) (x : Int) (y : Int)) ((T n o x y : Nat) : Int)
 | 0,o,x,y,hy,_,ho,hx=>by
  refine Ev.step (fun k=>spec_l1Times.l0.eq_2 _ _ _ k) ?_
  have : y=0:=by simpa using hy
  subst this
  refine ev_neg (by decide) (ev_now ?_)
  simp only [T]
  omega
 | n+1,o,x,y,hy,hn,ho,hx=>by
  have hy8 : y < 256:=Nat.lt_of_lt_of_le hy (Nat.pow_le_pow_right (n:=2) (by decide) hn)
  by_cases h0 : y=0
  ·subst h0
   refine Ev.step (fun k=>spec_l1Times.l0.eq_2 _ _ _ k) ?_
   refine ev_neg (by decide) (ev_now ?_)
   rw [T_zero]
   omega
  refine Ev.step (fun k=>spec_l1Times.l0.eq_2 _ _ _ k) ?_
  refine ev_pos (by omega) ?_
  have e2 : wrap64 ((x : Int)*2)=((2*x : Nat) : Int):=by rw [wrap_id (by omega) (by omega)];omega
  have e3 : ((y : Int) / 2)=((y / 2 : Nat) : Int):=by omega
  have e4 : Go.bits .xor .i64 (o : Int) (x : Int)=((o ^^^ x : Nat) : Int):=xor_i64 (by omega) (by omega)
  have e5 : Go.bits .xor .i64 ((2*x : Nat) : Int) 283=((2*x ^^^ 283 : Nat) : Int):=xor_i64 (m:=2*x) (n:=283) (by omega) (by omega)
  rw [and1_i64 (by omega),e2,e3,e4,e5]
  have hT : T (n+1) o x y=T n (if y % 2=1 then o ^^^ x else o) (xt x) (y / 2):=by rw [T]
  rw [hT]
  have hxt:=xt_lt hx
  have hox:=xor_lt ho hx
  have hh : y / 2 < 2 ^ n:=by rw [Nat.pow_succ] at hy;omega
  by_cases h1 : y % 2=1
  ·rw [if_pos h1]
   refine ev_pos (by omega) ?_
   by_cases h2 : 2*x > 255
   ·refine ev_pos (by omega) ?_
    have : xt x=2*x ^^^ 283:=by unfold xt;rw [if_pos h2]
    rw [this] at hxt ⊢
    exact spec_l1Times.ev_l0 n _ _ _ hh (by omega) hox hxt
   ·refine ev_neg (by omega) ?_
    have : xt x=2*x:=by unfold xt;rw [if_neg h2]
    rw [this] at hxt ⊢
    exact spec_l1Times.ev_l0 n _ _ _ hh (by omega) hox hxt
  ·rw [if_neg h1]
   refine ev_neg (by omega) ?_
   by_cases h2 : 2*x > 255
   ·refine ev_pos (by omega) ?_
    have : xt x=2*x ^^^ 283:=by unfold xt;rw [if_pos h2]
    rw [this] at hxt ⊢
    exact spec_l1Times.ev_l0 n _ _ _ hh (by omega) ho hxt
   ·refine ev_neg (by omega) ?_
    have : xt x=2*x:=by unfold xt;rw [if_neg h2]
    rw [this] at hxt ⊢
    exact spec_l1Times.ev_l0 n _ _ _ hh (by omega) ho hxt
theorem spec_l1Times.ev {a b : Int} (ha : Byte a) (hb : Byte b) : Ev (fun k=>spec_l1Times.f k a b) (mul a b):=by
 obtain ⟨m,hm,rfl⟩:=ha.nat
 obtain ⟨n,hn,rfl⟩:=hb.nat
 unfold spec_l1Times.f
 rw [wrap_id (i:=(m : Int)) (by omega) (by omega),wrap_id (i:=(n : Int)) (by omega) (by omega)]
 have h:=spec_l1Times.ev_l0 8 0 m n hn (Nat.le_refl _) (by decide) hm
 exact ev_eq h (by unfold Gf.mul gm;simp)

theorem spec_l1Dot.ev_l0 (v w : List Int) (hv : Bytes v) (hw : Bytes w) (hl : v.length=w.length) (hs : v.length < 140737488355328) : ∀ (n i : Nat) (o : Int),i+n=v.length→Byte o →
  Ev (fun k=>spec_l1Dot.l0 k v w o (v.length : Int) (i : Int)) (gx o (dotV (v.drop i) (w.drop i)))
 | 0,i,o,hi,ho=>by
  refine Ev.step (fun k=>spec_l1Dot.l0.eq_2 _ _ _ _ _ k) ?_
  refine ev_neg (by omega) (ev_now ?_)
  rw [List.drop_of_length_le (by omega)]
  exact (gx_zero ho).symm
 | n+1,i,o,hi,ho=>by
  refine Ev.step (fun k=>spec_l1Dot.l0.eq_2 _ _ _ _ _ k) ?_
  refine ev_pos (by omega) (ev_pos (by omega) (ev_pos (by omega) (ev_pos (by omega) ?_)))
  have bv : Byte (rd v (i : Int)):=bytes_rd hv (by omega)
  have bw : Byte (rd w (i : Int)):=bytes_rd hw (by omega)
  refine ev_bind (spec_l1Times.ev bv bw) ?_
  have bm:=Byte.mul bv (rd w (i : Int))
  have bg:=Byte.gx ho bm
  rw [inc (by omega),xor_u8 ho bm]
  refine ev_eq (spec_l1Dot.ev_l0 v w hv hw hl hs n (i+1) _ (by omega) bg) ?_
  rw [drop_cons (l:=v) (i:=i) (by omega),drop_cons (l:=w) (i:=i) (by omega),rd_get (by omega),rd_get (by omega),dotV,gx_assoc]
theorem spec_l1Dot.ev {v w : List Int} (hv : Bytes v) (hw : Bytes w) (hl : v.length=w.length) (hs : v.length < 140737488355328) : Ev (fun k=>spec_l1Dot.f k v w) (dotV v w):=by
 unfold spec_l1Dot.f
 refine ev_eq (spec_l1Dot.ev_l0 v w hv hw hl hs v.length 0 0 (by omega) .zero) ?_
 exact zero_gx (dotV_byte hv)

def applyM (m : List (List Int)) (v : List Int) : List Int:=m.map fun r=>dotV r v
theorem applyM_length (m : List (List Int)) (v : List Int) : (applyM m v).length=m.length:=by simp [applyM]
theorem applyM_bytes {m : List (List Int)} (h : matBytes m) (v : List Int) : Bytes (applyM m v):=by
 intro x hx
 simp only [applyM,List.mem_map] at hx
 obtain ⟨r,hr,rfl⟩:=hx
 exact dotV_byte (h r hr)
theorem spec_l2Apply.ev_l0 (m : List (List Int)) (v : List Int) (hv : Bytes v) (hn : v.length≤1048576) (hr : ∀ r ∈ m,Bytes r∧r.length=v.length) (hl : m.length≤1048576) : ∀ (d i : Nat) (o : List Int),i+d=m.length→o=(applyM m v).take i →
  Ev (fun k=>spec_l2Apply.l0 k v o m (m.length : Int) (i : Int)) (applyM m v)
 | 0,i,o,hi,ho=>by
  refine Ev.step (fun k=>spec_l2Apply.l0.eq_2 _ _ _ _ _ k) ?_
  refine ev_neg (by omega) (ev_now ?_)
  rw [ho,List.take_of_length_le (by rw [applyM_length];omega)]
 | d+1,i,o,hi,ho=>by
  have hlen : o.length=i:=by rw [ho,List.length_take,applyM_length];omega
  have hri:=hr _ (List.getElem_mem (show i < m.length by omega))
  refine Ev.step (fun k=>spec_l2Apply.l0.eq_2 _ _ _ _ _ k) ?_
  refine ev_pos (by omega) (ev_pos (by omega) (ev_pos (by omega) ?_))
  rw [rdSS _ i (by omega)]
  refine ev_bind (spec_l1Dot.ev hri.1 hv hri.2 (by omega)) (ev_pos (by omega) ?_)
  rw [inc (by omega)]
  refine spec_l2Apply.ev_l0 m v hv hn hr hl d (i+1) _ (by omega) ?_
  rw [List.take_succ_eq_append_getElem (by rw [applyM_length];omega),← ho]
  simp [applyM]
theorem spec_l2Apply.ev {m : List (List Int)} {v : List Int} (hv : Bytes v) (hn : v.length≤1048576) (hr : ∀ r ∈ m,Bytes r∧r.length=v.length) (hl : m.length≤1048576) : Ev (fun k=>spec_l2Apply.f k m v) (applyM m v):=by
 unfold spec_l2Apply.f
 exact spec_l2Apply.ev_l0 m v hv hn hr hl m.length 0 [] (by omega) rfl

section
open Go.Proofs.Yteflgifmdojahaa.Fld Go.Proofs.Yteflgifmdojahaa.Lin
theorem toF_dot : ∀ (v w : List Int),Bytes v→Bytes w→v.length=w.length→toF (dotV v w)=sm (fun i=>toF (v.getD i 0)*toF (w.getD i 0)) v.length
 | [],[],_,_,_=>toF_zero
 | x :: v,y :: w,hv,hw,hl=>by
  have hx : Byte x:=hv x (by simp)
  have hy : Byte y:=hw y (by simp)
  have hv2 : Bytes v:=fun z hz=>hv z (by simp [hz])
  have hw2 : Bytes w:=fun z hz=>hw z (by simp [hz])
  show toF (gx (mul x y) (dotV v w))=sm _ (v.length+1)
  rw [toF_gx (hx.mul y) (dotV_byte hv2),toF_mul hx hy,toF_dot v w hv2 hw2 (by simpa using hl),Nat.add_comm,sm_split]
  have e1 : sm (fun i=>toF ((x :: v).getD i 0)*toF ((y :: w).getD i 0)) 1=toF x*toF y:=F8.zero_add _
  rw [e1]
  congr 1
  refine sm_congr _ fun k _=>?_
  rw [Nat.add_comm 1 k,List.getD_cons_succ,List.getD_cons_succ]
theorem list_same {v w : List Int} (hl : v.length=w.length) (h : ∀ i,i < v.length→v.getD i 0=w.getD i 0) : v=w:=by
 refine List.ext_getElem hl fun i h1 h2=>?_
 have:=h i h1
 rw [List.getD_eq_getElem?_getD,List.getD_eq_getElem?_getD,List.getElem?_eq_getElem h1,List.getElem?_eq_getElem h2] at this
 exact this
theorem applyM_getD {M : List (List Int)} {i : Nat} (h : i < M.length) (v : List Int) : (applyM M v).getD i 0=dotV (M.getD i []) v:=by
 unfold applyM
 rw [List.getD_eq_getElem?_getD,List.getElem?_map,List.getElem?_eq_getElem h,List.getD_eq_getElem?_getD,List.getElem?_eq_getElem h]
 rfl
theorem rowM_ok {M : List (List Int)} {n i : Nat} (hM : ∀ r ∈ M,okI n r) (h : i < M.length) : okI n (M.getD i []):=by
 rw [List.getD_eq_getElem?_getD,List.getElem?_eq_getElem h]
 exact hM _ (List.getElem_mem h)
theorem toF_apply {M : List (List Int)} {v : List Int} {n i : Nat} (hM : ∀ r ∈ M,okI n r) (hv : Bytes v) (hl : v.length=n) (h : i < M.length) : toF ((applyM M v).getD i 0)=sm (fun j=>en M i j*toF (v.getD j 0)) n:=by
 have hr:=rowM_ok hM h
 rw [applyM_getD h,toF_dot _ _ hr.1 hv (by rw [hr.2,hl]),hr.2]
 rfl
/-- What a matrix with an inverse has told is found again. -/
theorem solve_back {M : List (List Int)} (hM : ∀ r ∈ M,okI M.length r) (hr : (rowI.red M M.length).2=M.length) (hi1 : (invM M).1.length=M.length) (hi2 : ∀ r ∈ (invM M).1,okI M.length r) {y : List Int} (hy : Bytes y) (hl : y.length=M.length) : applyM (invM M).1 (applyM M y)=y:=by
 have ha : Bytes (applyM M y):=applyM_bytes (fun r h=>(hM r h).1) y
 have hal : (applyM M y).length=M.length:=applyM_length _ _
 refine list_same (by rw [applyM_length,hi1,hl]) fun i hi=>?_
 rw [applyM_length,hi1] at hi
 have b1 : Byte ((applyM (invM M).1 (applyM M y)).getD i 0):=bytes_getD (applyM_bytes (fun r h=>(hi2 r h).1) _) i
 refine toF_inj b1 (bytes_getD hy i) ?_
 rw [toF_apply hi2 ha hal (by omega)]
 have e : sm (fun j=>en (invM M).1 i j*toF ((applyM M y).getD j 0)) M.length=sm (fun j=>sm (fun c=>en (invM M).1 i j*(en M j c*toF (y.getD c 0))) M.length) M.length :=
  sm_congr _ fun j hj=>by rw [toF_apply hM hy hl hj,sm_mul]
 rw [e,sm_swap]
 have e2 : sm (fun j=>sm (fun c=>en (invM M).1 i c*(en M c j*toF (y.getD j 0))) M.length) M.length=sm (fun c=>dl i c*toF (y.getD c 0)) M.length :=
  sm_congr _ fun c hc=>by
   rw [← invM_mul hM hr hi hc,← sm_mulr]
   exact sm_congr _ fun j _=>by rw [F8.mul_assoc]
 rw [e2]
 exact sm_dl2 _ hi
end

theorem spec_l2Blank.ev_l0 (n m : Nat) (hn : n≤1048576) (hm : m≤1048576) : ∀ (d i : Nat),i+d=n→Ev (fun k=>spec_l2Blank.l0 k (n : Int) (m : Int) (i : Int) (blankM i m)) (blankM n m)
 | 0,i,hi=>by
  obtain rfl : i=n:=by omega
  refine Ev.step (fun k=>spec_l2Blank.l0.eq_2 _ _ _ _ k) ?_
  exact ev_neg (by omega) (ev_now rfl)
 | d+1,i,hi=>by
  have ih:=spec_l2Blank.ev_l0 n m hn hm d (i+1) (by omega)
  refine Ev.step (fun k=>spec_l2Blank.l0.eq_2 _ _ _ _ k) ?_
  refine ev_pos (by omega) (ev_pos (by omega) (ev_pos (by omega) (ev_pos (by simp [blankM];omega) ?_)))
  rw [inc (by omega),Int.toNat_natCast]
  have e : blankM i m ++ [List.replicate m 0]=blankM (i+1) m:=by
   unfold blankM;rw [List.replicate_succ']
  rw [e]
  exact ih
theorem spec_l2Blank.ev (n m : Nat) (hn : n≤1048576) (hm : m≤1048576) : Ev (fun k=>spec_l2Blank.f k (n : Int) (m : Int)) (blankM n m):=by
 unfold spec_l2Blank.f
 exact spec_l2Blank.ev_l0 n m hn hm n 0 (by omega)

/-- Where a byte of data stands in the message's matrix. -/
def plc (a r j : Nat) : Nat:=(r / a)*(a*(a+1) / 2)+(min (r % a) j*a - min (r % a) j*(min (r % a) j - 1) / 2+(max (r % a) j - min (r % a) j))
theorem plc_lt {a : Nat} (h1 : 1≤a) (h3 : a≤3) {r j : Nat} (hr : r < 2*a) (hj : j < a) : plc a r j < a*(a+1):=by
 have h : a=1∨a=2∨a=3:=by omega
 have key : (∀ r,r < 2→∀ j,j < 1→plc 1 r j < 2)∧(∀ r,r < 4→∀ j,j < 2→plc 2 r j < 6)∧(∀ r,r < 6→∀ j,j < 3→plc 3 r j < 12):=by decide
 rcases h with rfl | rfl | rfl
 ·exact key.1 r hr j hj
 ·exact key.2.1 r hr j hj
 ·exact key.2.2 r hr j hj
/-- The message's matrix. -/
def msgM (a : Nat) (D : List Int) : List (List Int):=tab (2*a) a fun r j=>D.getD (plc a r j) 0
theorem msg_list (f : Nat→Int) : (List.range 2).map f=[f 0,f 1]∧(List.range 6).map f=[f 0,f 1,f 2,f 3,f 4,f 5]∧(List.range 12).map f=[f 0,f 1,f 2,f 3,f 4,f 5,f 6,f 7,f 8,f 9,f 10,f 11]:=⟨rfl,rfl,rfl⟩
theorem spec_l5Message.ev (n : Int) {a : Nat} (ha1 : 1≤a) (ha3 : a≤3) {D : List Int} (hl : D.length=a*(a+1)) : Ev (fun k=>spec_l5Message.f k n ((a+1 : Nat) : Int) D) (msgM a D):=by
 unfold spec_l5Message.f
 have e1 : wrap64 (((a+1 : Nat) : Int) - 1)=(a : Int):=by unfold wrap64;omega
 have e2 : wrap64 (2*(a : Int))=((2*a : Nat) : Int):=by unfold wrap64;omega
 rw [e1,e2]
 refine ev_bind (spec_l2Blank.ev (2*a) a (by omega) (by omega)) ?_
 refine Ev.of (k:=60) (fun k=>(spec_l5Message.mono_l k).1 _ _ _ _ _) ?_
 have hD:=row_self hl
 generalize D.getD=g at hD
 have h : a=1∨a=2∨a=3:=by omega
 unfold msgM
 rcases h with rfl | rfl | rfl
 ·rw [hD]
  generalize (fun j=>g j 0)=f
  rw [show (1*(1+1))=2 from rfl,(msg_list f).1]
  show _=_;kernel_rfl
 ·rw [hD]
  generalize (fun j=>g j 0)=f
  rw [show (2*(2+1))=6 from rfl,(msg_list f).2.1]
  show _=_;kernel_rfl
 ·rw [hD]
  generalize (fun j=>g j 0)=f
  rw [show (3*(3+1))=12 from rfl,(msg_list f).2.2]
  show _=_;kernel_rfl

section
open Go.Proofs.Yteflgifmdojahaa.Fld Go.Proofs.Yteflgifmdojahaa.Lin
/-- Nodes' numbers differ. -/
theorem nodeX_inj {i j : Nat} (hi : i < 14) (hj : j < 14) (h : nodeX i=nodeX j) : i=j:=by
 have key : ∀ i : Fin 14,∀ j : Fin 14,nodeX i.1=nodeX j.1→i.1=j.1:=by decide +kernel
 exact key ⟨i,hi⟩ ⟨j,hj⟩ h
theorem shortR_getD {a j i : Nat} (h : i < a) : (shortR a j).getD i 0=pow (nodeX j) i:=by
 unfold shortR
 rw [List.getD_eq_getElem?_getD,List.getElem?_map,List.getElem?_range h]
 rfl
theorem msrRow_en {a p j : Nat} (h : j < 2*a) : toF ((msrRow a p).getD j 0)=(toF (nodeX p)).pw j:=by
 unfold msrRow
 rw [getD_app,shortR_length]
 by_cases c : j < a
 ·rw [if_pos c,shortR_getD c,toF_pow (nodeX_byte p)]
 ·rw [if_neg c,getD_scale,shortR_getD (by omega),toF_mul (Byte.pow (nodeX_byte p) a) (Byte.pow (nodeX_byte p) _),toF_pow (nodeX_byte p),toF_pow (nodeX_byte p),← F8.pw_add]
  congr 1
  omega
theorem plc_sym (a r j : Nat) (hr : r < a) (hj : j < a) : plc a r j=plc a j r∧plc a (a+r) j=plc a (a+j) r:=by
 unfold plc
 rw [Nat.mod_eq_of_lt hr,Nat.mod_eq_of_lt hj,Nat.div_eq_of_lt hr,Nat.div_eq_of_lt hj,Nat.add_mod_left,Nat.add_mod_left,Nat.mod_eq_of_lt hr,Nat.mod_eq_of_lt hj,Nat.add_div_left _ (by omega),Nat.add_div_left _ (by omega),Nat.div_eq_of_lt hr,Nat.div_eq_of_lt hj,Nat.min_comm j r,Nat.max_comm j r]
 exact ⟨rfl,rfl⟩
theorem msgM_en {a : Nat} (D : List Int) {r j : Nat} (hr : r < 2*a) (hj : j < a) : en (msgM a D) r j=toF (D.getD (plc a r j) 0):=by
 unfold en msgM
 rw [tab_get2 hr hj]
theorem msgM_okI (a : Nat) {D : List Int} (h : Bytes D) : ∀ r ∈ msgM a D,okI a r:=tab_okI fun _ _ _ _=>bytes_getD h _
theorem tab_row0 {n m : Nat} {f : Nat→Nat→Int} (h : 0 < n) : ((tab n m f).getD 0 []).length=m:=tab_getD_length h
theorem trM_okI {a : Nat} (h1 : 1≤a) {D : List Int} (h : Bytes D) : (trM (msgM a D)).length=a∧∀ r ∈ trM (msgM a D),okI (2*a) r:=by
 have e : trM (msgM a D)=tab a (2*a) fun j i=>((msgM a D).getD i []).getD j 0:=by
  unfold trM
  rw [show ((msgM a D).getD 0 []).length=a from tab_row0 (by omega),show (msgM a D).length=2*a from tab_length _ _ _]
 rw [e]
 refine ⟨tab_length _ _ _,tab_okI fun j _ i _=>?_⟩
 by_cases c : i < (msgM a D).length
 ·exact bytes_getD (rowM_ok (msgM_okI a h) c).1 _
 ·rw [show (msgM a D).getD i []=[] by rw [List.getD_eq_getElem?_getD,List.getElem?_eq_none (by omega)];rfl]
  exact .zero
theorem trM_en {a : Nat} (h1 : 1≤a) (D : List Int) {j r : Nat} (hj : j < a) (hr : r < 2*a) : en (trM (msgM a D)) j r=en (msgM a D) r j:=by
 have e : trM (msgM a D)=tab a (2*a) fun j i=>((msgM a D).getD i []).getD j 0:=by
  unfold trM
  rw [show ((msgM a D).getD 0 []).length=a from tab_row0 (by omega),show (msgM a D).length=2*a from tab_length _ _ _]
 rw [e]
 unfold en
 rw [tab_get2 hj hr]
end

theorem spec_l1Scale.ev_l0 (a : Int) (ha : Byte a) (v : List Int) (hv : Bytes v) (hs : v.length < 140737488355328) : ∀ (n i : Nat) (o : List Int),i+n=v.length→o=(scale a v).take i →
  Ev (fun k=>spec_l1Scale.l0 k a o v (v.length : Int) (i : Int)) (scale a v)
 | 0,i,o,hi,ho=>by
  refine Ev.step (fun k=>spec_l1Scale.l0.eq_2 _ _ _ _ _ k) ?_
  refine ev_neg (by omega) (ev_now ?_)
  subst ho
  rw [List.take_of_length_le (by rw [scale_length];omega)]
 | n+1,i,o,hi,ho=>by
  have hz:=scale_length a v
  have hlen : o.length=i:=by rw [ho,List.length_take,hz];omega
  refine Ev.step (fun k=>spec_l1Scale.l0.eq_2 _ _ _ _ _ k) ?_
  refine ev_pos (by omega) (ev_pos (by omega) (ev_pos (by omega) ?_))
  refine ev_bind (spec_l1Times.ev ha (bytes_rd hv (by omega))) ?_
  refine ev_pos (by omega) ?_
  rw [inc (by omega),rd_get (by omega)]
  refine spec_l1Scale.ev_l0 a ha v hv hs n (i+1) _ (by omega) ?_
  rw [List.take_succ_eq_append_getElem (by omega),← ho]
  simp [scale]
theorem spec_l1Scale.ev {a : Int} (ha : Byte a) {v : List Int} (hv : Bytes v) (hs : v.length < 140737488355328) : Ev (fun k=>spec_l1Scale.f k a v) (scale a v):=by
 unfold spec_l1Scale.f
 exact spec_l1Scale.ev_l0 a ha v hv hs v.length 0 [] (by omega) rfl

theorem spec_l1Power.ev_l0 (a : Int) (ha : Byte a) : ∀ (n m : Nat),n < 4611686018427387904→Ev (fun k=>spec_l1Power.l0 k a (n : Int) (pow a m)) (pow a (m+n))
 | 0,m,_=>by
  refine Ev.step (fun k=>spec_l1Power.l0.eq_2 _ _ _ k) ?_
  exact ev_neg (by omega) (ev_now rfl)
 | n+1,m,hn=>by
  refine Ev.step (fun k=>spec_l1Power.l0.eq_2 _ _ _ k) ?_
  refine ev_pos (by omega) ?_
  refine ev_bind (spec_l1Times.ev (Byte.pow ha m) ha) ?_
  have e : wrap64 (((n+1 : Nat) : Int) - 1)=(n : Int):=by unfold wrap64;omega
  rw [e,← pow_succ]
  refine ev_eq (spec_l1Power.ev_l0 a ha n (m+1) (by omega)) ?_
  rw [Nat.add_right_comm,Nat.add_assoc]
theorem spec_l1Power.ev {a : Int} (ha : Byte a) (n : Nat) (hn : n < 4611686018427387904) : Ev (fun k=>spec_l1Power.f k a (n : Int)) (pow a n):=by
 unfold spec_l1Power.f
 have:=spec_l1Power.ev_l0 a ha n 0 hn
 rw [pow_zero,Nat.zero_add] at this
 exact this

theorem spec_l5X.ev (j : Nat) (hj : j < 4294967296) : Ev (fun k=>spec_l5X.f k (j : Int)) (nodeX j):=by
 unfold spec_l5X.f
 rw [inc (by omega)]
 exact ev_bind (spec_l1Power.ev byte3 (j+1) (by omega)) (ev_now rfl)

theorem spec_l5F.ev (n : Int) (a j : Nat) (ha : a≤3) (hj : j < 4294967296) : Ev (fun k=>spec_l5F.f k n ((a+1 : Nat) : Int) (j : Int)) (pow (nodeX j) a):=by
 unfold spec_l5F.f
 have e : wrap64 (((a+1 : Nat) : Int) - 1)=(a : Int):=by unfold wrap64;omega
 rw [e]
 exact ev_bind (spec_l5X.ev j hj) (ev_bind (spec_l1Power.ev (nodeX_byte j) a (by omega)) (ev_now rfl))

theorem spec_l5Short.ev_l0 (n : Int) (a j : Nat) (ha : a≤3) (hj : j < 4294967296) : ∀ (d i : Nat) (o : List Int),i+d=a→o=(shortR a j).take i →
  Ev (fun k=>spec_l5Short.l0 k (j : Int) o (i : Int) n ((a+1 : Nat) : Int)) (shortR a j)
 | 0,i,o,hi,ho=>by
  have e : wrap64 (((a+1 : Nat) : Int) - 1)=(a : Int):=by unfold wrap64;omega
  refine Ev.step (fun k=>spec_l5Short.l0.eq_2 _ _ _ _ _ k) ?_
  rw [e]
  refine ev_neg (by omega) (ev_now ?_)
  rw [ho,List.take_of_length_le (by rw [shortR_length];omega)]
 | d+1,i,o,hi,ho=>by
  have e : wrap64 (((a+1 : Nat) : Int) - 1)=(a : Int):=by unfold wrap64;omega
  have hl : o.length≤3:=by rw [ho,List.length_take,shortR_length];omega
  refine Ev.step (fun k=>spec_l5Short.l0.eq_2 _ _ _ _ _ k) ?_
  rw [e]
  refine ev_pos (by omega) ?_
  refine ev_bind (spec_l5X.ev j hj) (ev_bind (spec_l1Power.ev (nodeX_byte j) i (by omega)) (ev_pos (by omega) ?_))
  rw [inc (by omega)]
  exact spec_l5Short.ev_l0 n a j ha hj d (i+1) _ (by omega) (by rw [shortR_succ a j i (by omega),← ho])
theorem spec_l5Short.ev (n : Int) (a j : Nat) (ha : a≤3) (hj : j < 4294967296) : Ev (fun k=>spec_l5Short.f k n ((a+1 : Nat) : Int) (j : Int)) (shortR a j):=by
 unfold spec_l5Short.f
 exact spec_l5Short.ev_l0 n a j ha hj a 0 [] (by omega) rfl

theorem spec_l5Row.ev (n : Int) (a j : Nat) (ha : a≤3) (hj : j < 4294967296) : Ev (fun k=>spec_l5Row.f k n ((a+1 : Nat) : Int) (j : Int)) (msrRow a j):=by
 unfold spec_l5Row.f
 have hl:=shortR_length a j
 have hs:=scale_length (pow (nodeX j) a) (shortR a j)
 refine ev_bind (spec_l5Short.ev n a j ha hj) ?_
 simp only [Option.bind_some,List.nil_append,List.length_nil]
 refine ev_pos (by omega) ?_
 refine ev_bind (spec_l5F.ev n a j ha hj) (ev_bind (spec_l1Scale.ev (Byte.pow (nodeX_byte j) a) (shortR_bytes a j) (by omega)) (ev_pos (by omega) (ev_now rfl)))

def trPart (l : List (List Int)) (i j : Nat) : List (List Int):=tab (l.getD 0 []).length l.length fun a b=>if b < i∨b=i∧a < j then (l.getD b []).getD a 0 else 0
theorem trPart_next (l : List (List Int)) (i : Nat) : trPart l i (l.getD 0 []).length=trPart l (i+1) 0:=by
 apply tab_congr
 intro a ha b hb
 by_cases h : b < i∨b=i∧a < (l.getD 0 []).length
 ·rw [if_pos h,if_pos (by omega)]
 ·rw [if_neg h,if_neg (by omega)]
theorem spec_l2Transposed.ev_l1 (l : List (List Int)) (hg : goodM l=true) (i : Nat) (hi : i < l.length) {R : List (List Int)}
  (K : Ev (fun k=>spec_l2Transposed.l0 k l (l.length : Int) ((i+1 : Nat) : Int) (trPart l (i+1) 0)) R) : ∀ (d j : Nat),j+d=(l.getD 0 []).length →
  Ev (fun k=>spec_l2Transposed.l1 k (i : Int) l (l.length : Int) (i : Int) (l.getD i []) ((l.getD i []).length : Int) (j : Int) (trPart l i j)) R
 | 0,j,hj=>by
  have hf:=goodM_iff hg
  refine Ev.step (fun k=>spec_l2Transposed.l1.eq_2 _ _ _ _ _ _ _ _ k) ?_
  have e:=hf.2.2 i hi
  refine ev_neg (by omega) ?_
  rw [inc (by omega),show j=(l.getD 0 []).length by omega,trPart_next]
  exact K
 | d+1,j,hj=>by
  have hf:=goodM_iff hg
  have e:=hf.2.2 i hi
  have hlen : (trPart l i j).length=(l.getD 0 []).length:=tab_length _ _ _
  have hrow : ((trPart l i j).getD j []).length=l.length:=tab_getD_length (by omega)
  refine Ev.step (fun k=>spec_l2Transposed.l1.eq_2 _ _ _ _ _ _ _ _ k) ?_
  simp only [rdSS0,Int.toNat_natCast]
  refine ev_pos (by omega) (ev_pos (by omega) (ev_pos (by omega) (ev_pos (by omega) (ev_pos (by omega) (ev_pos (by omega) ?_)))))
  rw [inc (by omega)]
  have hs : (trPart l i j).set j (((trPart l i j).getD j []).set i (rd (l.getD i []) (j : Int)))=trPart l i (j+1):=by
   unfold trPart
   rw [tab_set (by omega)]
   apply tab_congr
   intro a ha b hb
   by_cases h : a=j∧b=i
   ·obtain ⟨rfl,rfl⟩:=h
    rw [if_pos ⟨rfl,rfl⟩,if_pos (by omega),rd_nat]
   ·rw [if_neg h]
    by_cases h2 : b < i∨b=i∧a < j
    ·rw [if_pos h2,if_pos (by omega)]
    ·rw [if_neg h2,if_neg (by omega)]
  rw [hs]
  exact spec_l2Transposed.ev_l1 l hg i hi K d (j+1) (by omega)
theorem spec_l2Transposed.ev_l0 (l : List (List Int)) (hg : goodM l=true) : ∀ (d i : Nat),i+d=l.length→Ev (fun k=>spec_l2Transposed.l0 k l (l.length : Int) (i : Int) (trPart l i 0)) (trM l)
 | 0,i,hi=>by
  refine Ev.step (fun k=>spec_l2Transposed.l0.eq_2 _ _ _ _ k) ?_
  refine ev_neg (by omega) (ev_now ?_)
  apply tab_congr
  intro a ha b hb
  rw [if_pos (by omega)]
 | d+1,i,hi=>by
  have ih:=spec_l2Transposed.ev_l0 l hg d (i+1) (by omega)
  have hf:=goodM_iff hg
  refine Ev.step (fun k=>spec_l2Transposed.l0.eq_2 _ _ _ _ k) ?_
  refine ev_pos (by omega) (ev_pos (by omega) (ev_pos (by omega) ?_))
  simp only [rdSS0,Int.toNat_natCast]
  exact spec_l2Transposed.ev_l1 l hg i (by omega) ih (l.getD 0 []).length 0 (by omega)
theorem spec_l2Transposed.ev (l : List (List Int)) (hg : goodM l=true) : Ev (fun k=>spec_l2Transposed.f k l) (trM l):=by
 have hf:=goodM_iff hg
 unfold spec_l2Transposed.f
 refine ev_pos (by omega) ?_
 simp only [rdSS0,Int.toNat_zero]
 refine ev_bind (spec_l2Blank.ev _ _ (by omega) (by omega)) ?_
 have e : blankM (l.getD 0 []).length l.length=trPart l 0 0:=by
  rw [tab_blank]
  apply tab_congr
  intro a ha b hb
  rw [if_neg (by omega)]
 rw [e]
 exact spec_l2Transposed.ev_l0 l hg l.length 0 (by omega)

theorem goodM_same {M : List (List Int)} {n : Nat} (hM : ∀ r ∈ M,r.length=n) (h1 : 1≤M.length) (h2 : M.length≤16) (h3 : 1≤n) (h4 : n≤16) : goodM M=true:=by
 have e : ∀ i,i < M.length→(M.getD i []).length=n:=fun i hi=>by
  rw [List.getD_eq_getElem?_getD,List.getElem?_eq_getElem hi]
  exact hM _ (List.getElem_mem hi)
 have e0:=e 0 (by omega)
 unfold goodM
 rw [e0]
 have : ((List.range M.length).any fun i=>(M.getD i []).length != n)=false:=by
  rw [List.any_eq_false]
  intro i hi
  rw [e i (List.mem_range.1 hi)]
  simp
 rw [this]
 simp [h1,h2,h3,h4]
theorem tab_mem {n m : Nat} {f : Nat→Nat→Int} : ∀ r ∈ tab n m f,r.length=m:=fun r hr=>by
 simp only [tab,List.mem_map] at hr
 obtain ⟨i,_,rfl⟩:=hr
 simp
theorem dotV_swap : ∀ (v w : List Int),Bytes v→Bytes w→dotV v w=dotV w v
 | [],[],_,_=>rfl
 | [],_ :: _,_,_=>rfl
 | _ :: _,[],_,_=>rfl
 | x :: v,y :: w,hv,hw=>by
  show gx (mul x y) (dotV v w)=gx (mul y x) (dotV w v)
  rw [mul_comm (hv x (by simp)) (hw y (by simp)),dotV_swap v w (fun z hz=>hv z (by simp [hz])) (fun z hz=>hw z (by simp [hz]))]
theorem trM_bytes {M : List (List Int)} (h : matBytes M) : matBytes (trM M):=tab_bytes fun _ _ _ _=>matBytes_get h _ _
theorem row_product {M : List (List Int)} {v : List Int} (hM : matBytes M) (hv : Bytes v) (hl : v.length=M.length) : (prodM [v] M).getD 0 []=applyM (trM M) v:=by
 have hb : matBytes [v]:=fun r hr=>by rw [List.mem_singleton.1 hr];exact hv
 unfold prodM
 rw [tab_getD (show 0 < [v].length by simp)]
 unfold applyM trM tab
 rw [List.map_map]
 apply List.map_congr_left
 intro j hj
 have e:=prodM_dot (a:=[v]) (b:=M) hb (i:=0) (j:=j) hl
 rw [← e]
 show dotV v _=dotV _ v
 refine dotV_swap _ _ hv (fun z hz=>?_)
 simp only [List.mem_map] at hz
 obtain ⟨i,_,rfl⟩:=hz
 exact matBytes_get hM _ _
abbrev Pc:=S76
def pieceAt (a : Nat) (D : List Int) (i : Nat) : Pc:=⟨(i : Int),applyM (trM (msgM a D)) (msrRow a i)⟩
def encL (m a : Nat) (D : List Int) : List Pc:=(List.range m).map (pieceAt a D)
theorem encL_length (m a : Nat) (D : List Int) : (encL m a D).length=m:=by simp [encL]
theorem encL_succ (m a : Nat) (D : List Int) (i : Nat) (h : i < m) : (encL m a D).take (i+1)=(encL m a D).take i ++ [pieceAt a D i]:=by
 rw [List.take_succ_eq_append_getElem (by rw [encL_length];exact h)]
 simp [encL]
theorem msgM_bytes (a : Nat) {D : List Int} (h : Bytes D) : matBytes (msgM a D):=tab_bytes fun _ _ _ _=>bytes_getD h _
theorem msgM_good {a : Nat} (h1 : 1≤a) (h3 : a≤3) (D : List Int) : goodM (msgM a D)=true:=goodM_same (n:=a) tab_mem (by unfold msgM;rw [tab_length];omega) (by unfold msgM;rw [tab_length];omega) h1 (by omega)
theorem msgM_length (a : Nat) (D : List Int) : (msgM a D).length=2*a:=tab_length _ _ _
theorem msgM_first {a : Nat} (h1 : 1≤a) (D : List Int) : ((msgM a D).getD 0 []).length=a:=tab_getD_length (by omega)
theorem trM_msg {a : Nat} (h1 : 1≤a) (D : List Int) : (trM (msgM a D)).length=a∧∀ r ∈ trM (msgM a D),r.length=2*a:=by
 unfold trM
 rw [msgM_first h1,msgM_length]
 exact ⟨tab_length _ _ _,tab_mem⟩
theorem pieceAt_length {a : Nat} (h1 : 1≤a) (D : List Int) (i : Nat) : (pieceAt a D i).f1.length=a:=(applyM_length _ _).trans (trM_msg h1 D).1
theorem spec_l5Encode.ev_l0 {a m : Nat} (h1 : 1≤a) (h3 : a≤3) (hm : m≤14) {D : List Int} (hb : Bytes D) : ∀ (d i : Nat),i+d=m→Ev (fun k=>spec_l5Encode.l0 k ((encL m a D).take i) (i : Int) (m : Int) ((a+1 : Nat) : Int) (trM (msgM a D))) (encL m a D)
 | 0,i,hi=>by
  have hz:=encL_length m a D
  refine Ev.step (fun k=>spec_l5Encode.l0.eq_2 _ _ _ _ _ k) ?_
  refine ev_neg (by omega) (ev_now ?_)
  rw [List.take_of_length_le (by omega)]
 | d+1,i,hi=>by
  have hz:=encL_length m a D
  have ht:=trM_msg h1 D
  have hr:=msrRow_length a i
  have htb:=trM_bytes (msgM_bytes a hb)
  refine Ev.step (fun k=>spec_l5Encode.l0.eq_2 _ _ _ _ _ k) ?_
  refine ev_pos (by omega) (ev_bind (spec_l5Row.ev _ a i h3 (by omega)) (ev_bind (spec_l2Apply.ev (msrRow_bytes a i) (by omega) (fun r hr2=>⟨htb r hr2,(ht.2 r hr2).trans hr.symm⟩) (by omega)) (ev_pos (by rw [List.length_take];omega) ?_)))
  rw [show (⟨(i : Int),applyM (trM (msgM a D)) (msrRow a i)⟩ : Pc)=pieceAt a D i from rfl,← encL_succ m a D i (by omega),inc (by omega)]
  exact spec_l5Encode.ev_l0 h1 h3 hm hb d (i+1) (by omega)
theorem spec_l5Encode.ev {a m : Nat} (h1 : 1≤a) (h3 : a≤3) (hm : m≤14) {D : List Int} (hb : Bytes D) (hl : D.length=a*(a+1)) : Ev (fun k=>spec_l5Encode.f k (m : Int) ((a+1 : Nat) : Int) D) (encL m a D):=by
 unfold spec_l5Encode.f
 exact ev_bind (spec_l5Message.ev _ h1 h3 hl) (ev_bind (spec_l2Transposed.ev _ (msgM_good h1 h3 D)) (spec_l5Encode.ev_l0 h1 h3 hm hb m 0 (by omega)))

theorem unk_mem {n m : Nat} {f : Nat→Nat→Int} : ∀ r ∈ tab n m f,r.length=m:=fun r hr=>by
 simp only [tab,List.mem_map] at hr
 obtain ⟨i,_,rfl⟩:=hr
 simp
theorem unk_good {M : List (List Int)} {n : Nat} (hM : ∀ r ∈ M,r.length=n) (h1 : 1≤M.length) (h2 : M.length≤16) (h3 : 1≤n) (h4 : n≤16) : goodM M=true:=by
 have e : ∀ i,i < M.length→(M.getD i []).length=n:=fun i hi=>by
  rw [List.getD_eq_getElem?_getD,List.getElem?_eq_getElem hi]
  exact hM _ (List.getElem_mem hi)
 have e0:=e 0 (by omega)
 unfold goodM
 rw [e0]
 have : ((List.range M.length).any fun i=>(M.getD i []).length != n)=false:=by
  rw [List.any_eq_false]
  intro i hi
  rw [e i (List.mem_range.1 hi)]
  simp
 rw [this]
 simp [h1,h2,h3,h4]
def unkF (a node i c : Nat) : Int:=sumOver (fun r=>if plc a r i=c then (msrRow a node).getD r 0 else 0) (2*a)
def unkM (a node : Nat) : List (List Int):=tab a (a*(a+1)) (unkF a node)
def unkPart (a node c i : Nat) : List (List Int):=tab a (a*(a+1)) fun x y=>if y < c∨y=c∧x < i then unkF a node x y else 0
def oneV (b c : Nat) : List Int:=(List.replicate b 0).set c 1
def unkCol (a node c : Nat) : List Int:=applyM (trM (msgM a (oneV (a*(a+1)) c))) (msrRow a node)
theorem unkF_byte (a node i c : Nat) : Byte (unkF a node i c):=sumOver_byte _ fun r _=>by
 split
 ·exact bytes_getD (msrRow_bytes a node) r
 ·exact .zero
theorem oneV_length (b c : Nat) : (oneV b c).length=b:=by simp [oneV]
theorem oneV_get {b c : Nat} (hc : c < b) (j : Nat) : (oneV b c).getD j 0=if j=c then 1 else 0:=by
 unfold oneV
 rw [List.getD_eq_getElem?_getD,List.getElem?_set]
 by_cases h : c=j
 ·subst h
  simp [hc]
 ·rw [if_neg h,if_neg (fun e=>h e.symm)]
  by_cases hj : j < b <;> simp [hj]
theorem oneV_bytes {b c : Nat} : Bytes (oneV b c):=by
 intro x hx
 rcases List.mem_or_eq_of_mem_set hx with h | h
 ·rw [(List.mem_replicate.1 h).2];exact .zero
 ·rw [h];exact ⟨by decide,by decide⟩
theorem row_getD {f : Nat→Int} {n j : Nat} (h : j < n) : ((List.range n).map f).getD j 0=f j:=by simp [List.getD,h]
theorem map_getD {α : Type} {l : List α} {f : α→Int} {i : Nat} (h : i < l.length) : (l.map f).getD i 0=f l[i]:=by simp [List.getD,h]
theorem unkCol_length {a : Nat} (h1 : 1≤a) (node c : Nat) : (unkCol a node c).length=a:=by
 unfold unkCol
 rw [applyM_length]
 unfold trM
 rw [tab_length]
 exact tab_getD_length (by omega)
theorem unkCol_get {a : Nat} (h1 : 1≤a) (node : Nat) {c i : Nat} (hc : c < a*(a+1)) (hi : i < a) : (unkCol a node c).getD i 0=unkF a node i c:=by
 have hf : ((msgM a (oneV (a*(a+1)) c)).getD 0 []).length=a:=tab_getD_length (by omega)
 have hl : (msgM a (oneV (a*(a+1)) c)).length=2*a:=tab_length _ _ _
 have ht : (trM (msgM a (oneV (a*(a+1)) c))).length=a:=by unfold trM;rw [tab_length,hf]
 unfold unkCol applyM
 rw [map_getD (by rw [ht];exact hi)]
 have e : (trM (msgM a (oneV (a*(a+1)) c)))[i]'(by rw [ht];exact hi)=(List.range (msgM a (oneV (a*(a+1)) c)).length).map fun r=>((msgM a (oneV (a*(a+1)) c)).getD r []).getD i 0:=by
  simp only [trM,tab,List.getElem_map,List.getElem_range]
 rw [e,hl,row_self (msrRow_length a node)]
 have hM : ∀ r,r < 2*a→((msgM a (oneV (a*(a+1)) c)).getD r []).getD i 0=if plc a r i=c then 1 else 0:=fun r hr=>by
  unfold msgM
  rw [tab_get2 hr hi,oneV_get hc]
 rw [dotV_range _ _ _ (fun r hr=>by rw [hM r hr];split;exact ⟨by decide,by decide⟩;exact .zero)]
 refine sumOver_congr _ fun r hr=>?_
 rw [hM r hr]
 have hb:=bytes_getD (msrRow_bytes a node) r
 split
 ·rw [mul_comm ⟨by decide,by decide⟩ hb,mul_one hb]
 ·rw [mul_comm .zero hb,mul_zero]
theorem unkPart_next (a node c : Nat) : unkPart a node c a=unkPart a node (c+1) 0:=by
 apply tab_congr
 intro x hx y hy
 by_cases h : y < c∨y=c∧x < a
 ·rw [if_pos h,if_pos (by omega)]
 ·rw [if_neg h,if_neg (by omega)]
theorem unkPart_set {a node c i : Nat} (hi : i < a) : (unkPart a node c i).set i (((unkPart a node c i).getD i []).set c (unkF a node i c))=unkPart a node c (i+1):=by
 unfold unkPart
 rw [tab_set hi]
 apply tab_congr
 intro x hx y hy
 by_cases h : x=i∧y=c
 ·rw [if_pos h,if_pos (by omega),h.1,h.2]
 ·rw [if_neg h]
  by_cases h2 : y < c∨y=c∧x < i
  ·rw [if_pos h2,if_pos (by omega)]
  ·rw [if_neg h2,if_neg (by omega)]
theorem unk_b {a : Nat} (h3 : a≤3) : a*(a+1)≤12:=Nat.mul_le_mul h3 (Nat.succ_le_succ h3)
theorem spec_l5Unknowns.ev_l2 (n : Int) {a : Nat} (h1 : 1≤a) (h3 : a≤3) {node c : Nat} (hc : c < a*(a+1)) {R : List (List Int)}
  (K : Ev (fun k=>spec_l5Unknowns.l1 k (node : Int) ((a*(a+1) : Nat) : Int) (unkPart a node (c+1) 0) ((c+1 : Nat) : Int) n ((a+1 : Nat) : Int)) R) : ∀ (d i : Nat),i+d=a →
  Ev (fun k=>spec_l5Unknowns.l2 k (node : Int) ((a*(a+1) : Nat) : Int) (unkPart a node c i) (c : Int) (unkCol a node c) (a : Int) (i : Int) n ((a+1 : Nat) : Int)) R
 | 0,i,hi=>by
  refine Ev.step (fun k=>spec_l5Unknowns.l2.eq_2 _ _ _ _ _ _ _ _ _ k) ?_
  refine ev_neg (by omega) ?_
  have hb:=unk_b h3
  rw [inc (by omega),show i=a by omega,unkPart_next]
  exact K
 | d+1,i,hi=>by
  have hil : i < a:=by omega
  have hl : (unkPart a node c i).length=a:=tab_length _ _ _
  have hr : ((unkPart a node c i).getD i []).length=a*(a+1):=tab_getD_length hil
  have hcl:=unkCol_length h1 node c
  refine Ev.step (fun k=>spec_l5Unknowns.l2.eq_2 _ _ _ _ _ _ _ _ _ k) ?_
  refine ev_pos (by omega) (ev_pos (by omega) (ev_pos (by omega) (ev_pos (by omega) (ev_pos (by omega) ?_))))
  simp only [rdSS0,rd_nat,Int.toNat_natCast]
  refine ev_pos (by omega) ?_
  rw [unkCol_get h1 node hc hil,unkPart_set hil,inc (by omega)]
  exact spec_l5Unknowns.ev_l2 n h1 h3 hc K d (i+1) (by omega)
theorem spec_l5Unknowns.ev_l1 (n : Int) {a : Nat} (h1 : 1≤a) (h3 : a≤3) {node : Nat} (hn : node < 4294967296) : ∀ (d c : Nat),c+d=a*(a+1) →
  Ev (fun k=>spec_l5Unknowns.l1 k (node : Int) ((a*(a+1) : Nat) : Int) (unkPart a node c 0) (c : Int) n ((a+1 : Nat) : Int)) (unkM a node)
 | 0,c,hc=>by
  refine Ev.step (fun k=>spec_l5Unknowns.l1.eq_2 _ _ _ _ _ _ k) ?_
  refine ev_neg (by omega) (ev_now ?_)
  apply tab_congr
  intro x hx y hy
  rw [if_pos (by omega)]
 | d+1,c,hc=>by
  have hb:=unk_b h3
  have hlc : c < a*(a+1):=by omega
  have hg : goodM (msgM a (oneV (a*(a+1)) c))=true:=unk_good (n:=a) unk_mem (by unfold msgM;rw [tab_length];omega) (by unfold msgM;rw [tab_length];omega) h1 (by omega)
  have hf : ((msgM a (oneV (a*(a+1)) c)).getD 0 []).length=a:=tab_getD_length (by omega)
  have hl : (msgM a (oneV (a*(a+1)) c)).length=2*a:=tab_length _ _ _
  have hmb : matBytes (msgM a (oneV (a*(a+1)) c)):=tab_bytes fun _ _ _ _=>bytes_getD oneV_bytes _
  have hrl:=msrRow_length a node
  refine Ev.step (fun k=>spec_l5Unknowns.l1.eq_2 _ _ _ _ _ _ k) ?_
  refine ev_pos (by omega) (ev_pos (by omega) (ev_pos (by omega) ?_))
  simp only [Option.bind_some,Int.toNat_natCast]
  refine ev_pos (by omega) (ev_pos (by simp only [List.length_replicate];omega) ?_)
  rw [show (List.replicate (a*(a+1)) (0 : Int)).set c 1=oneV (a*(a+1)) c from rfl]
  refine ev_bind (spec_l5Message.ev n h1 h3 (oneV_length _ c)) (ev_bind (spec_l2Transposed.ev _ hg) (ev_bind (spec_l5Row.ev n a node h3 hn) (ev_bind (spec_l2Apply.ev (msrRow_bytes a node) (by omega) (fun r hr=>⟨(tab_bytes fun _ _ _ _=>matBytes_get hmb _ _) r hr,(unk_mem r hr).trans (hl.trans hrl.symm)⟩) (by unfold trM;rw [tab_length];omega)) ?_)))
  have hcl:=unkCol_length h1 node c
  show Ev (fun k=>spec_l5Unknowns.l2 k (node : Int) ((a*(a+1) : Nat) : Int) (unkPart a node c 0) (c : Int) (unkCol a node c) ((unkCol a node c).length : Int) 0 n ((a+1 : Nat) : Int)) _
  rw [hcl]
  exact spec_l5Unknowns.ev_l2 n h1 h3 hlc (spec_l5Unknowns.ev_l1 n h1 h3 hn d (c+1) (by omega)) a 0 (by omega)
theorem spec_l5Unknowns.ev_l0 (n : Int) {a : Nat} (h1 : 1≤a) (h3 : a≤3) {node : Nat} (hn : node < 4294967296) : ∀ (d i : Nat),i+d=a →
  Ev (fun k=>spec_l5Unknowns.l0 k (node : Int) ((a*(a+1) : Nat) : Int) (List.replicate i (List.replicate (a*(a+1)) 0) ++ List.replicate d []) (a : Int) (i : Int) n ((a+1 : Nat) : Int)) (unkM a node)
 | 0,i,hi=>by
  refine Ev.step (fun k=>spec_l5Unknowns.l0.eq_2 _ _ _ _ _ _ _ k) ?_
  refine ev_neg (by omega) ?_
  have e : List.replicate i (List.replicate (a*(a+1)) (0 : Int)) ++ List.replicate 0 []=unkPart a node 0 0:=by
   rw [List.replicate_zero,List.append_nil,show i=a by omega]
   refine (tab_blank a (a*(a+1))).trans (tab_congr fun x _ y _=>?_)
   rw [if_neg (by omega)]
  rw [e]
  exact spec_l5Unknowns.ev_l1 n h1 h3 hn (a*(a+1)) 0 (by omega)
 | d+1,i,hi=>by
  have hb:=unk_b h3
  refine Ev.step (fun k=>spec_l5Unknowns.l0.eq_2 _ _ _ _ _ _ _ k) ?_
  refine ev_pos (by omega) (ev_pos (by omega) (ev_pos (by omega) (ev_pos (by omega) (ev_pos (by simp only [List.length_append,List.length_replicate];omega) ?_))))
  rw [inc (by omega)]
  simp only [Int.toNat_natCast]
  have e : (List.replicate i (List.replicate (a*(a+1)) (0 : Int)) ++ List.replicate (d+1) []).set i (List.replicate (a*(a+1)) 0)=List.replicate (i+1) (List.replicate (a*(a+1)) 0) ++ List.replicate d []:=by
   rw [List.set_append_right _ _ (by simp),List.length_replicate,Nat.sub_self,List.replicate_succ,List.set_cons_zero,List.replicate_succ',List.append_assoc]
   rfl
  rw [e]
  exact spec_l5Unknowns.ev_l0 n h1 h3 hn d (i+1) (by omega)
theorem spec_l5Unknowns.ev {n : Int} {a : Nat} (h1 : 1≤a) (h3 : a≤3) {node : Nat} (hn : node < 4294967296) : Ev (fun k=>spec_l5Unknowns.f k n ((a+1 : Nat) : Int) (node : Int)) (unkM a node):=by
 unfold spec_l5Unknowns.f
 have hb:=unk_b h3
 rw [show wrap64 (((a+1 : Nat) : Int) - 1)=(a : Int) by unfold wrap64;omega,show wrap64 (((a+1 : Nat) : Int)*(a : Int))=((a*(a+1) : Nat) : Int) by rw [← Int.natCast_mul,Nat.mul_comm];unfold wrap64;omega]
 refine ev_pos (by omega) (ev_pos (by omega) ?_)
 simp only [Option.bind_some,Int.toNat_natCast,List.length_replicate]
 exact spec_l5Unknowns.ev_l0 n h1 h3 hn a 0 (by omega)

theorem spec_l2Inverse.ev {l : List (List Int)} (hs : sqN l=true) : spec_l2Inverse.f l=some ((redP l (idM l.length) l.length).1.map Prod.snd,decide ((redP l (idM l.length) l.length).2=l.length)):=by
 unfold spec_l2Inverse.f
 rw [if_pos hs]
theorem invM_yes {l : List (List Int)} (h : (redP l (idM l.length) l.length).2=l.length) : invM l=((redP l (idM l.length) l.length).1.map Prod.snd,true):=by
 unfold invM
 rw [if_neg (by omega)]
theorem invM_no {l : List (List Int)} (h : ¬ (redP l (idM l.length) l.length).2=l.length) : invM l=([],false):=by
 unfold invM
 have:=red_rank_le l (idM l.length) l.length
 rw [if_pos (by omega)]
theorem invM_ok {l : List (List Int)} (h : sqN l=true) : ((invM l).2=true→(invM l).1.length=l.length)∧(∀ r ∈ (invM l).1,okI l.length r)∧(invM l).1.length≤l.length:=by
 obtain ⟨h1,h2,h3⟩:=sqN_iff.1 h
 by_cases e : (redP l (idM l.length) l.length).2=l.length
 ·rw [invM_yes e]
  have hl : ((redP l (idM l.length) l.length).1.map Prod.snd).length=l.length:=by rw [List.length_map,redP_length _ _ _ (by rw [KitN.idM_length])]
  exact ⟨fun _=>hl,snd_all (redP_ok (n:=l.length) h3 (idM_ok l.length)),by show ((redP l (idM l.length) l.length).1.map Prod.snd).length≤_;omega⟩
 ·rw [invM_no e]
  exact ⟨fun z=>(by cases z),fun r hr=>(by cases hr),Nat.zero_le _⟩

theorem spec_l1In.ev (a b c : Int) : spec_l1In.f a b c=some (decide (b≤a∧a≤c)):=by
 unfold spec_l1In.f
 by_cases h : a ≥ b
 ·rw [if_pos h];simp [h]
 ·rw [if_neg h];simp;omega

theorem spec_GoodMsr.ev (n k : Int) : spec_GoodMsr.f n k=some (decide (GoodMsr n k)):=by
 unfold spec_GoodMsr.f
 simp only [spec_l1In.ev,Option.bind_some,decide_eq_true_eq]
 by_cases h : 2≤k∧k≤4
 ·have e : wrap64 (wrap64 (2*k) - 1)=2*k - 1:=by unfold wrap64;omega
  simp [h,e]
 ·simp [h]

theorem spec_l5Piece.ev {n k : Int} (hg : GoodMsr n k) (x : Int) (l : List Int) : spec_l5Piece.f n k x l=some (decide (0≤x∧x≤n - 1∧(l.length : Int)=k - 1)):=by
 unfold spec_l5Piece.f
 have e : wrap64 (n - 1)=n - 1:=by unfold wrap64;omega
 have e2 : wrap64 (k - 1)=k - 1:=by unfold wrap64;omega
 simp only [spec_l1In.ev,Option.bind_some,decide_eq_true_eq,e,e2]
 by_cases h : 0≤x∧x≤n - 1
 ·rw [if_pos h];by_cases h2 : (l.length : Int)=k - 1 <;> simp [h,h2]
 ·rw [if_neg h];simp;omega

abbrev Pk:=S76
def pcN (l : List Pk) : List Int:=l.map (·.f0)
theorem pcN_length (l : List Pk) : (pcN l).length=l.length:=by simp [pcN]
theorem rdPk {l : List Pk} {i : Nat} (h : i < l.length) : rd_T76 l (i : Int)=l[i]:=by unfold rd_T76;simp [List.getD,h]
theorem pcN_rd {l : List Pk} {i : Nat} (h : i < l.length) : rd (pcN l) (i : Int)=(l[i]).f0:=by rw [rd_get (by rw [pcN_length];exact h)];simp [pcN]
def pcOk (l : List Pk) (m a : Nat) : Bool:=(List.range l.length).all fun i=>riseAt (pcN l) m i && decide ((l.getD i z76).f1.length=a)
theorem pc_getD {l : List Pk} {i : Nat} (h : i < l.length) : l.getD i z76=l[i]:=by simp [List.getD,h]
theorem pcOk_yes {l : List Pk} {m a : Nat} (h : ∀ j (hj : j < l.length),riseAt (pcN l) m j=true∧(l[j]).f1.length=a) : pcOk l m a=true:=by
 unfold pcOk
 rw [List.all_eq_true]
 intro x hx
 have hx:=List.mem_range.1 hx
 have:=h x hx
 rw [this.1,pc_getD hx,decide_eq_true this.2];rfl
theorem pcOk_no {l : List Pk} {m a i : Nat} (hi : i < l.length) (h : riseAt (pcN l) m i=false∨¬ (l[i]).f1.length=a) : pcOk l m a=false:=by
 unfold pcOk
 rw [List.all_eq_false]
 refine ⟨i,List.mem_range.2 hi,?_⟩
 rw [pc_getD hi]
 rcases h with h | h
 ·rw [h];simp
 ·rw [decide_eq_false h];simp
def rowsOf (a : Nat) (l : List Pk) : List (List Int):=l.flatMap fun p=>unkM a p.f0.toNat
def dataOf (l : List Pk) : List Int:=l.flatMap fun p=>p.f1
theorem unkM_length (a node : Nat) : (unkM a node).length=a:=tab_length _ _ _
theorem rowsOf_snoc (a : Nat) (l : List Pk) (p : Pk) : rowsOf a (l ++ [p])=rowsOf a l ++ unkM a p.f0.toNat:=by simp [rowsOf]
theorem dataOf_snoc (l : List Pk) (p : Pk) : dataOf (l ++ [p])=dataOf l ++ p.f1:=by simp [dataOf]
theorem rowsOf_length (a : Nat) : ∀ l : List Pk,(rowsOf a l).length=l.length*a
 | []=>by simp [rowsOf]
 | p :: l=>by
  have:=rowsOf_length a l
  unfold rowsOf at this ⊢
  rw [List.flatMap_cons,List.length_append,unkM_length,this,List.length_cons,Nat.succ_mul];omega
theorem dataOf_length {a : Nat} : ∀ l : List Pk,(∀ p ∈ l,p.f1.length=a)→(dataOf l).length=l.length*a
 | [],_=>by simp [dataOf]
 | p :: l,h=>by
  have:=dataOf_length l (fun q hq=>h q (by simp [hq]))
  have hp:=h p (by simp)
  unfold dataOf at this ⊢
  rw [List.flatMap_cons,List.length_append,hp,this,List.length_cons,Nat.succ_mul];omega
theorem dataOf_bytes {l : List Pk} (h : ∀ p ∈ l,Bytes p.f1) : Bytes (dataOf l):=by
 intro x hx
 obtain ⟨p,hp,hx⟩:=List.mem_flatMap.1 hx
 exact h p hp x hx
theorem rowsOf_sq {a : Nat} {l : List Pk} (h1 : 1≤a) (h3 : a≤3) (hl : l.length=a+1) : sqN (rowsOf a l)=true:=by
 have hz:=rowsOf_length a l
 rw [hl,Nat.mul_comm] at hz
 have hb:=unk_b h3
 have hp : 1*1≤a*(a+1):=Nat.mul_le_mul h1 (by omega)
 refine sqN_iff.2 ⟨by omega,by omega,fun r hr=>?_⟩
 obtain ⟨p,_,hr⟩:=List.mem_flatMap.1 hr
 refine ⟨tab_bytes (fun i _ j _=>unkF_byte a _ i j) r hr,?_⟩
 rw [hz]
 simp only [unkM,tab,List.mem_map] at hr
 obtain ⟨i,_,rfl⟩:=hr
 simp
def decTail (a : Nat) (l : List Pk) : List Int × Bool:=if (invM (rowsOf a l)).2=true then (applyM (invM (rowsOf a l)).1 (dataOf l),true) else ([],false)
def decVal (n k : Int) (l : List Pk) : List Int × Bool:=if GoodMsr n k∧k≤(l.length : Int)∧pcOk l n.toNat (k.toNat - 1)=true then decTail (k.toNat - 1) (l.take k.toNat) else ([],false)
theorem take_next {l : List Pk} {K i : Nat} (hi : i < l.length) (hK : i < K) : (l.take K).take (i+1)=(l.take K).take i ++ [l[i]]:=by
 rw [List.take_succ_eq_append_getElem (by rw [List.length_take];omega),List.getElem_take]
theorem take_stay {l : List Pk} {K i : Nat} (hK : K≤i) : (l.take K).take (i+1)=(l.take K).take i:=by
 exact (List.take_of_length_le (l:=l.take K) (by rw [List.length_take];omega)).trans (List.take_of_length_le (l:=l.take K) (by rw [List.length_take];omega)).symm
theorem take_lens {l : List Pk} {a K : Nat} (h : ∀ j (hj : j < l.length),(l[j]).f1.length=a) : ∀ p ∈ l.take K,p.f1.length=a:=by
 intro p hp
 obtain ⟨j,hj,rfl⟩:=List.getElem_of_mem (List.mem_of_mem_take hp)
 exact h j hj
theorem spec_DecodeMsr.ev_l0 (a m : Nat) (hg : GoodMsr (m : Int) ((a+1 : Nat) : Int)) (l : List Pk) (hl : a+1≤l.length) (hlm : l.length≤1048576) (hb : ∀ p ∈ l,Bytes p.f1) : ∀ (d i : Nat) (g : List Int) (M : List (List Int)),i+d=l.length→g=dataOf ((l.take (a+1)).take i)→M=rowsOf a ((l.take (a+1)).take i)→g.length≤3*i→M.length≤3*i →
  (∀ j (hj : j < l.length),j < i→riseAt (pcN l) m j=true∧(l[j]).f1.length=a) →
  Ev (fun q=>spec_DecodeMsr.l0 q l g l (l.length : Int) (i : Int) (m : Int) ((a+1 : Nat) : Int) M) (if pcOk l m a=true then decTail a (l.take (a+1)) else ([],false))
 | 0,i,g,M,hi,hgi,hM,_,_,hall=>by
  have ha1 : 1≤a:=by omega
  have ha3 : a≤3:=by omega
  have hall2 : ∀ j (hj : j < l.length),riseAt (pcN l) m j=true∧(l[j]).f1.length=a:=fun j hj=>hall j hj (by omega)
  have hs:=rowsOf_sq (l:=l.take (a+1)) ha1 ha3 (by rw [List.length_take];omega)
  obtain ⟨o1,o2,o3⟩:=invM_ok hs
  have hrl:=rowsOf_length a (l.take (a+1))
  have hdl:=dataOf_length (l.take (a+1)) (take_lens fun j hj=>(hall2 j hj).2)
  have hdb : Bytes (dataOf (l.take (a+1))):=dataOf_bytes fun p hp=>hb p (List.mem_of_mem_take hp)
  have hub:=unk_b ha3
  have htl : (l.take (a+1)).length=a+1:=by rw [List.length_take];omega
  rw [htl,Nat.mul_comm] at hrl hdl
  refine Ev.step (fun k=>spec_DecodeMsr.l0.eq_2 _ _ _ _ _ _ _ _ k) ?_
  refine ev_neg (by omega) ?_
  rw [if_pos (pcOk_yes hall2),hgi,hM,List.take_of_length_le (l:=l.take (a+1)) (by omega),spec_l2Inverse.ev hs]
  simp only [Option.bind_some]
  unfold decTail
  by_cases z : (redP (rowsOf a (l.take (a+1))) (idM (rowsOf a (l.take (a+1))).length) (rowsOf a (l.take (a+1))).length).2=(rowsOf a (l.take (a+1))).length
  ·rw [invM_yes z] at o1 o2 o3 ⊢
   rw [if_pos rfl]
   have hml : ((redP (rowsOf a (l.take (a+1))) (idM (rowsOf a (l.take (a+1))).length) (rowsOf a (l.take (a+1))).length).1.map Prod.snd).length≤12:=Nat.le_trans o3 (by omega)
   exact ev_pos (decide_eq_true z) (ev_bind (spec_l2Apply.ev hdb (by omega) (fun r hr=>⟨(o2 r hr).1,by rw [(o2 r hr).2,hrl,hdl]⟩) (by omega)) (ev_now rfl))
  ·rw [invM_no z,if_neg (by simp)]
   exact ev_neg (by simpa using z) (ev_now rfl)
 | d+1,i,g,M,hi,hgi,hM,hgl,hMl,hall=>by
  have ha1 : 1≤a:=by omega
  have ha3 : a≤3:=by omega
  have hil : i < l.length:=by omega
  have hx:=pcN_rd hil
  have ih:=fun g' M' hg' hM' h1 h2 hall'=>spec_DecodeMsr.ev_l0 a m hg l hl hlm hb d (i+1) g' M' (by omega) hg' hM' h1 h2 hall'
  refine Ev.step (fun k=>spec_DecodeMsr.l0.eq_2 _ _ _ _ _ _ _ _ k) ?_
  rw [rdPk hil]
  refine ev_pos (by omega) (ev_pos (by omega) (ev_pos (by omega) ?_))
  simp only [spec_l5Piece.ev hg,Option.bind_some,decide_eq_true_eq]
  have hno : riseAt (pcN l) m i=false∨¬ (l[i]).f1.length=a→Ev (fun k=>spec_DecodeMsr.j2 k l g (i : Int) l (l.length : Int) (i : Int) true (m : Int) ((a+1 : Nat) : Int) M (l[i]).f0 (l[i]).f1) (if pcOk l m a=true then decTail a (l.take (a+1)) else ([],false)):=fun h=>by
   refine Ev.step (fun k=>spec_DecodeMsr.j2.eq_2 _ _ _ _ _ _ _ _ _ _ _ _ k) ?_
   refine ev_pos rfl (ev_now ?_)
   rw [pcOk_no hil h,if_neg (by simp)]
  by_cases c : 0≤(l[i]).f0∧(l[i]).f0≤(m : Int) - 1∧((l[i]).f1.length : Int)=((a+1 : Nat) : Int) - 1
  ·refine ev_pos c ?_
   have hla : (l[i]).f1.length=a:=by omega
   obtain ⟨j,hj⟩ : ∃ j : Nat,(l[i]).f0=(j : Int):=⟨(l[i]).f0.toNat,by omega⟩
   have hgo : riseAt (pcN l) m i=true→Ev (fun k=>spec_DecodeMsr.j2 k l g (i : Int) l (l.length : Int) (i : Int) false (m : Int) ((a+1 : Nat) : Int) M (l[i]).f0 (l[i]).f1) (if pcOk l m a=true then decTail a (l.take (a+1)) else ([],false)):=by
    intro hr
    have hall' : ∀ t (ht : t < l.length),t < i+1→riseAt (pcN l) m t=true∧(l[t]).f1.length=a:=fun t ht h=>by
     by_cases e : t=i
     ·subst e;exact ⟨hr,hla⟩
     ·exact hall t ht (by omega)
    refine Ev.step (fun k=>spec_DecodeMsr.j2.eq_2 _ _ _ _ _ _ _ _ _ _ _ _ k) ?_
    refine ev_neg (by simp) ?_
    by_cases hK : i < a+1
    ·refine ev_pos (by omega) ?_
     have hun:=spec_l5Unknowns.ev (n:=(m : Int)) ha1 ha3 (node:=j) (by omega)
     rw [← hj] at hun
     have hul:=unkM_length a j
     refine ev_bind hun (ev_pos (by omega) (ev_pos (by omega) ?_))
     rw [inc (by omega)]
     refine ih _ _ ?_ ?_ (by rw [List.length_append];omega) (by rw [List.length_append];omega) hall'
     ·rw [take_next hil hK,dataOf_snoc,← hgi]
     ·rw [take_next hil hK,rowsOf_snoc,← hM,hj,Int.toNat_natCast]
    ·refine ev_neg (by omega) ?_
     rw [inc (by omega)]
     exact ih _ _ (by rw [take_stay (by omega)];exact hgi) (by rw [take_stay (by omega)];exact hM) (by omega) (by omega) hall'
   by_cases hz : i=0
   ·subst hz
    exact ev_neg (by omega) (hgo (riseAt_yes (by rw [hx];omega) (.inl rfl)))
   ·have hp : i - 1 < l.length:=by omega
    refine ev_pos (by omega) ?_
    rw [show wrap64 ((i : Int) - 1)=((i - 1 : Nat) : Int) by unfold wrap64;omega,rdPk hp]
    refine ev_pos (by omega) (ev_pos (by omega) ?_)
    have hxp:=pcN_rd hp
    by_cases c3 : (l[i - 1]).f0 < (l[i]).f0
    ·rw [decide_eq_false (show ¬ (l[i - 1]).f0 ≥ (l[i]).f0 by omega)]
     exact hgo (riseAt_yes (by rw [hx];omega) (.inr (by rw [hx,hxp];exact c3)))
    ·rw [decide_eq_true (show (l[i - 1]).f0 ≥ (l[i]).f0 by omega)]
     exact hno (.inl (riseAt_no (fun y=>by rcases y.2 with w | w;exact hz w;rw [hx,hxp] at w;exact c3 w)))
  ·refine ev_neg c (hno ?_)
   by_cases c2 : (l[i]).f1.length=a
   ·exact .inl (riseAt_no (fun y=>by have:=y.1;rw [hx] at this;omega))
   ·exact .inr c2
theorem spec_DecodeMsr.ev (n k : Int) (l : List Pk) (hlm : l.length≤1048576) (hb : ∀ p ∈ l,Bytes p.f1) : Ev (fun q=>spec_DecodeMsr.f q n k l) (decVal n k l):=by
 unfold spec_DecodeMsr.f decVal
 simp only [spec_GoodMsr.ev,Option.bind_some,decide_eq_true_eq]
 by_cases h : GoodMsr n k
 ·refine ev_pos h ?_
  refine Ev.step (fun k=>spec_DecodeMsr.j0.eq_2 _ _ _ _ k) ?_
  by_cases h2 : (l.length : Int) < k
  ·rw [if_neg (fun y=>by have:=y.2.1;omega)]
   exact ev_pos (decide_eq_true h2) (ev_now rfl)
  ·refine ev_neg (by simpa using h2) ?_
   obtain ⟨a,m,rfl,rfl,h3⟩:=GoodMsr_nat h
   refine ev_eq (spec_DecodeMsr.ev_l0 a m h l (by omega) hlm hb l.length 0 [] [] (by omega) rfl rfl (by simp) (by simp) (fun j hj h=>absurd h (by omega))) ?_
   simp only [Int.toNat_natCast,Nat.add_sub_cancel]
   by_cases h5 : pcOk l m a=true
   ·rw [if_pos h5,if_pos ⟨h,by omega,h5⟩]
   ·rw [if_neg h5,if_neg (fun y=>h5 y.2.2)]
 ·rw [if_neg (fun y=>h y.1)]
  refine ev_neg h ?_
  refine Ev.step (fun k=>spec_DecodeMsr.j0.eq_2 _ _ _ _ k) ?_
  exact ev_pos rfl (ev_now rfl)

section
open Go.Proofs.Yteflgifmdojahaa.Fld Go.Proofs.Yteflgifmdojahaa.Lin
theorem toF_sumOver {f : Nat→Int} : ∀ n,(∀ j,j < n→Byte (f j))→toF (sumOver f n)=sm (fun j=>toF (f j)) n
 | 0,_=>toF_zero
 | n+1,h=>by
  show toF (gx (sumOver f n) (f n))=sm _ n+_
  rw [toF_gx (sumOver_byte n fun j hj=>h j (by omega)) (h n (by omega)),toF_sumOver n fun j hj=>h j (by omega)]
/-- A row of the unknowns against any weights. -/
theorem unk_sm {a node t : Nat} (h1 : 1≤a) (h3 : a≤3) (ht : t < a) (z : Nat→F8) : sm (fun c=>toF (unkF a node t c)*z c) (a*(a+1))=sm (fun r=>toF ((msrRow a node).getD r 0)*z (plc a r t)) (2*a):=by
 have hb : ∀ r,Byte ((msrRow a node).getD r 0):=fun r=>bytes_getD (msrRow_bytes a node) r
 have e1 : sm (fun c=>toF (unkF a node t c)*z c) (a*(a+1))=sm (fun c=>sm (fun r=>toF (if plc a r t=c then (msrRow a node).getD r 0 else 0)*z c) (2*a)) (a*(a+1)):=by
  refine sm_congr _ fun c _=>?_
  unfold unkF
  rw [toF_sumOver _ fun r _=>by split;exact hb r;exact .zero,← sm_mulr]
 rw [e1,sm_swap]
 refine sm_congr _ fun r hr=>?_
 rw [sm_single (p:=plc a r t) (plc_lt h1 h3 hr ht) fun c _ hc=>by rw [if_neg (fun e=>hc e.symm),toF_zero,F8.zero_mul],if_pos rfl]
theorem unkM_okI (a node : Nat) : ∀ r ∈ unkM a node,okI (a*(a+1)) r:=tab_okI fun _ _ _ _=>unkF_byte a node _ _
/-- What the unknowns' rows make of the data is the node's piece. -/
theorem unk_piece {a : Nat} (h1 : 1≤a) (h3 : a≤3) {D : List Int} (hD : Bytes D) (hl : D.length=a*(a+1)) (node : Nat) : applyM (unkM a node) D=applyM (trM (msgM a D)) (msrRow a node):=by
 obtain ⟨t1,t2⟩:=trM_okI h1 hD
 have hu:=unkM_okI a node
 have hul : (unkM a node).length=a:=tab_length _ _ _
 refine list_same (by rw [applyM_length,applyM_length,t1,hul]) fun j hj=>?_
 rw [applyM_length,hul] at hj
 refine toF_inj (bytes_getD (applyM_bytes (fun r hr=>(hu r hr).1) _) j) (bytes_getD (applyM_bytes (fun r hr=>(t2 r hr).1) _) j) ?_
 rw [toF_apply hu hD hl (by omega),toF_apply t2 (msrRow_bytes a node) (msrRow_length a node) (by omega)]
 have e : sm (fun c=>en (unkM a node) j c*toF (D.getD c 0)) (a*(a+1))=sm (fun c=>toF (unkF a node j c)*toF (D.getD c 0)) (a*(a+1)) :=
  sm_congr _ fun c hc=>by
   unfold en unkM
   rw [tab_get2 hj hc]
 rw [e,unk_sm h1 h3 hj]
 refine sm_congr _ fun r hr=>?_
 rw [trM_en h1 D hj hr,msgM_en D hr hj,F8.mul_comm]
theorem plc_all {a : Nat} (h1 : 1≤a) (h3 : a≤3) {c : Nat} (hc : c < a*(a+1)) : ∃ r t,r < a∧t < a∧(plc a r t=c∨plc a (a+r) t=c):=by
 have h : a=1∨a=2∨a=3:=by omega
 have key : (∀ c,c < 2→∃ r,r < 1∧∃ t,t < 1∧(plc 1 r t=c∨plc 1 (1+r) t=c))∧(∀ c,c < 6→∃ r,r < 2∧∃ t,t < 2∧(plc 2 r t=c∨plc 2 (2+r) t=c))∧(∀ c,c < 12→∃ r,r < 3∧∃ t,t < 3∧(plc 3 r t=c∨plc 3 (3+r) t=c)):=by decide
 rcases h with rfl | rfl | rfl
 ·obtain ⟨r,hr,t,ht,h⟩:=key.1 c hc;exact ⟨r,t,hr,ht,h⟩
 ·obtain ⟨r,hr,t,ht,h⟩:=key.2.1 c hc;exact ⟨r,t,hr,ht,h⟩
 ·obtain ⟨r,hr,t,ht,h⟩:=key.2.2 c hc;exact ⟨r,t,hr,ht,h⟩
theorem nodeP_inj {a i j : Nat} (h1 : 1≤a) (h3 : a≤3) (hi : i < 14) (hj : j < 14) (h : pow (nodeX i) a=pow (nodeX j) a) : i=j:=by
 have key : ∀ i : Fin 14,∀ j : Fin 14,(pow (nodeX i.1) 1=pow (nodeX j.1) 1→i.1=j.1)∧(pow (nodeX i.1) 2=pow (nodeX j.1) 2→i.1=j.1)∧(pow (nodeX i.1) 3=pow (nodeX j.1) 3→i.1=j.1):=by decide +kernel
 have k:=key ⟨i,hi⟩ ⟨j,hj⟩
 have c : a=1∨a=2∨a=3:=by omega
 rcases c with rfl | rfl | rfl
 ·exact k.1 h
 ·exact k.2.1 h
 ·exact k.2.2 h
/-- The unknowns' rows of any k nodes have an inverse. -/
theorem unkRows_rank {a : Nat} (h1 : 1≤a) (h3 : a≤3) (p : List Nat) (hp : p.length=a+1) (h14 : ∀ i,i < p.length→p.getD i 0 < 14) (hd : ∀ i j,i < p.length→j < p.length→p.getD i 0=p.getD j 0→i=j) (R : List (List Int)) (hR : R=p.flatMap (unkM a)) (hl : R.length=a*(a+1)) : (rowI.red R (a*(a+1))).2=a*(a+1):=by
 have hok : ∀ r ∈ R,okI (a*(a+1)) r:=fun r hr=>by
  rw [hR] at hr
  obtain ⟨x,_,hr⟩:=List.mem_flatMap.1 hr
  exact unkM_okI a x r hr
 refine rank_full hok fun z hz=>?_
 have hrow : ∀ i,i < a+1→∀ t,t < a→sm (fun r=>toF ((msrRow a (p.getD i 0)).getD r 0)*z (plc a r t)) (2*a)=0:=fun i hi t ht=>by
  rw [← unk_sm h1 h3 ht]
  have hm : (unkM a (p.getD i 0)).getD t [] ∈ R:=by
   rw [hR,List.mem_flatMap]
   refine ⟨p.getD i 0,?_,?_⟩
   ·rw [List.getD_eq_getElem?_getD,List.getElem?_eq_getElem (by omega : i < p.length)]
    exact List.getElem_mem _
   ·have hul : (unkM a (p.getD i 0)).length=a:=tab_length _ _ _
    generalize p.getD i 0=node at hul ⊢
    rw [List.getD_eq_getElem?_getD,List.getElem?_eq_getElem (by omega : t < (unkM a node).length)]
    exact List.getElem_mem _
  obtain ⟨q,hq,e⟩:=List.getElem_of_mem hm
  rw [← hz q hq]
  refine sm_congr _ fun c hc=>?_
  have e2 : en R q c=toF (unkF a (p.getD i 0) t c):=by
   unfold en
   rw [List.getD_eq_getElem?_getD (l:=R),List.getElem?_eq_getElem hq]
   show toF ((R[q]).getD c 0)=_
   rw [e]
   unfold unkM
   rw [tab_get2 ht hc]
  rw [e2]
 have key:=msr (a:=a) (k:=a+1) (x:=fun i=>toF (nodeX (p.getD i 0))) (l:=fun i=>(toF (nodeX (p.getD i 0))).pw a) rfl (S:=fun r t=>z (plc a r t)) (U:=fun r t=>z (plc a (a+r) t))
  (fun i j hi hj=>by show z _=z _;rw [(plc_sym a i j hi hj).1]) (fun i j hi hj=>by show z _=z _;rw [(plc_sym a i j hi hj).2])
  (fun i j hi hj e=>hd i j (by omega) (by omega) (nodeX_inj (h14 i (by omega)) (h14 j (by omega)) (toF_inj (nodeX_byte _) (nodeX_byte _) e)))
  (fun i j hi hj e=>hd i j (by omega) (by omega) (nodeP_inj h1 h3 (h14 i (by omega)) (h14 j (by omega)) (toF_inj (Byte.pow (nodeX_byte _) a) (Byte.pow (nodeX_byte _) a) (by rw [toF_pow (nodeX_byte _),toF_pow (nodeX_byte _)];exact e))))
  (fun i hi t ht=>by
   rw [← hrow i hi t ht,show 2*a=a+a by omega,sm_split,← sm_mul]
   refine congr (congrArg _ (sm_congr _ fun r hr=>?_)) (sm_congr _ fun r hr=>?_)
   ·rw [msrRow_en (by omega)]
   ·rw [msrRow_en (by omega),F8.pw_add,F8.mul_assoc])
 intro c hc
 obtain ⟨r,t,hr,ht,h⟩:=plc_all h1 h3 hc
 rcases h with rfl | rfl
 ·exact (key r t hr ht).1
 ·exact (key r t hr ht).2
/-- The data out of the pieces of any k nodes. -/
theorem data_back {a : Nat} (h1 : 1≤a) (h3 : a≤3) {D : List Int} (hD : Bytes D) (hDl : D.length=a*(a+1)) (p : List Nat) (hp : p.length=a+1) (h14 : ∀ x ∈ p,x < 14) (hs : p.Pairwise (· < ·)) : decTail a (p.map (pieceAt a D))=(D,true):=by
 have hR : rowsOf a (p.map (pieceAt a D))=p.flatMap (unkM a):=by
  unfold rowsOf
  rw [List.flatMap_map]
  rfl
 have hX : ∀ l : List Nat,dataOf (l.map (pieceAt a D))=applyM (l.flatMap (unkM a)) D:=fun l=>by
  induction l with
  | nil=>rfl
  | cons x l ih =>
   have e : dataOf ((x :: l).map (pieceAt a D))=(pieceAt a D x).f1 ++ dataOf (l.map (pieceAt a D)):=by simp [dataOf]
   have e2 : applyM ((x :: l).flatMap (unkM a)) D=applyM (unkM a x) D ++ applyM (l.flatMap (unkM a)) D:=by
    unfold applyM
    rw [List.flatMap_cons,List.map_append]
   rw [e,e2,ih,unk_piece h1 h3 hD hDl]
   rfl
 have hsq:=rowsOf_sq (l:=p.map (pieceAt a D)) h1 h3 (by rw [List.length_map,hp])
 have hlen : (rowsOf a (p.map (pieceAt a D))).length=a*(a+1):=by rw [rowsOf_length,List.length_map,hp,Nat.mul_comm]
 have hok : ∀ r ∈ rowsOf a (p.map (pieceAt a D)),okI (rowsOf a (p.map (pieceAt a D))).length r:=(sqN_iff.1 hsq).2.2
 have hg : ∀ i (h : i < p.length),p.getD i 0=p[i]:=fun i h=>by rw [List.getD_eq_getElem?_getD,List.getElem?_eq_getElem h];rfl
 have hr : (rowI.red (rowsOf a (p.map (pieceAt a D))) (rowsOf a (p.map (pieceAt a D))).length).2=(rowsOf a (p.map (pieceAt a D))).length:=by
  rw [hlen]
  refine unkRows_rank h1 h3 p hp (fun i hi=>by rw [hg i hi];exact h14 _ (List.getElem_mem hi)) (fun i j hi hj e=>?_) _ hR hlen
  rw [hg i hi,hg j hj] at e
  have hpw:=List.pairwise_iff_getElem.1 hs
  by_cases c : i=j
  ·exact c
  ·by_cases c2 : i < j
   ·have:=hpw i j hi hj c2;omega
   ·have:=hpw j i hj hi (by omega);omega
 have hz:=(inv_iff hok).2 hr
 obtain ⟨o1,o2,_⟩:=invM_ok hsq
 unfold decTail
 rw [if_pos hz,hX p,← hR,solve_back hok hr (o1 hz) o2 hD (by rw [hDl,hlen])]
end

def msgVal (n k : Int) (D : List Int) : List (List Int) × Bool:=if GoodMsr n k∧(D.length : Int)=k*(k - 1) then (msgM (k.toNat - 1) D,true) else ([],false)
theorem msg_size {a : Nat} : ((a+1 : Nat) : Int)*(((a+1 : Nat) : Int) - 1)=((a*(a+1) : Nat) : Int):=by
 have e : ((a+1 : Nat) : Int) - 1=(a : Int):=by omega
 rw [e,← Int.natCast_mul,Nat.mul_comm]

theorem impl_Times.ev_l0 (b : Nat) (hb : b < 256) : ∀ (n i o x : Nat),i+n=8→o < 256→x < 256 →
  Ev (fun k=>impl_Times.l0 k (b : Int) (o : Int) (i : Int) (x : Int)) ((T n o x (b / 2 ^ i) : Nat) : Int)
 | 0,i,o,x,hi,ho,hx=>by
  refine Ev.step (fun k=>impl_Times.l0.eq_2 _ _ _ _ k) ?_
  refine ev_neg (by omega) (ev_now ?_)
  simp only [T]
  omega
 | n+1,i,o,x,hi,ho,hx=>by
  refine Ev.step (fun k=>impl_Times.l0.eq_2 _ _ _ _ k) ?_
  refine ev_pos (by omega) (ev_pos (by omega) ?_)
  have e1 : shr .u8 (b : Int) (i : Int)=((b / 2 ^ i : Nat) : Int):=by
   unfold shr
   rw [Nat.min_eq_left (by simp only [IntKind.bits];omega)]
   simp
  have hd : b / 2 ^ i < 256:=Nat.lt_of_le_of_lt (Nat.div_le_self _ _) hb
  have e2 : wrap64 ((x : Int)*2)=((2*x : Nat) : Int):=by rw [wrap_id (by omega) (by omega)];omega
  have e3 : wrap64 ((i : Int)+1)=((i+1 : Nat) : Int):=by rw [wrap_id (by omega) (by omega)];omega
  rw [e1,and1_u8 hd,e2,e3]
  have e4 : Go.bits .xor .i64 (o : Int) (x : Int)=((o ^^^ x : Nat) : Int):=xor_i64 (by omega) (by omega)
  have e5 : Go.bits .xor .i64 ((2*x : Nat) : Int) 283=((2*x ^^^ 283 : Nat) : Int):=xor_i64 (m:=2*x) (n:=283) (by omega) (by omega)
  have e6 : b / 2 ^ i / 2=b / 2 ^ (i+1):=by rw [Nat.div_div_eq_div_mul,Nat.pow_succ]
  rw [e4,e5]
  have hT : T (n+1) o x (b / 2 ^ i)=T n (if b / 2 ^ i % 2=1 then o ^^^ x else o) (xt x) (b / 2 ^ (i+1)):=by rw [T,e6]
  rw [hT]
  have hxt:=xt_lt hx
  have hox:=xor_lt ho hx
  by_cases h1 : b / 2 ^ i % 2=1
  ·rw [if_pos h1]
   refine ev_pos (by omega) ?_
   by_cases h2 : 2*x > 255
   ·refine ev_pos (by omega) ?_
    have : xt x=2*x ^^^ 283:=by unfold xt;rw [if_pos h2]
    rw [this] at hxt ⊢
    exact impl_Times.ev_l0 b hb n (i+1) _ _ (by omega) hox hxt
   ·refine ev_neg (by omega) ?_
    have : xt x=2*x:=by unfold xt;rw [if_neg h2]
    rw [this] at hxt ⊢
    exact impl_Times.ev_l0 b hb n (i+1) _ _ (by omega) hox hxt
  ·rw [if_neg h1]
   refine ev_neg (by omega) ?_
   by_cases h2 : 2*x > 255
   ·refine ev_pos (by omega) ?_
    have : xt x=2*x ^^^ 283:=by unfold xt;rw [if_pos h2]
    rw [this] at hxt ⊢
    exact impl_Times.ev_l0 b hb n (i+1) _ _ (by omega) ho hxt
   ·refine ev_neg (by omega) ?_
    have : xt x=2*x:=by unfold xt;rw [if_neg h2]
    rw [this] at hxt ⊢
    exact impl_Times.ev_l0 b hb n (i+1) _ _ (by omega) ho hxt
theorem impl_Times.ev {a b : Int} (ha : Byte a) (hb : Byte b) : Ev (fun k=>impl_Times.f k a b) (mul a b):=by
 obtain ⟨m,hm,rfl⟩:=ha.nat
 obtain ⟨n,hn,rfl⟩:=hb.nat
 unfold impl_Times.f
 rw [wrap_id (by omega) (by omega)]
 have h:=impl_Times.ev_l0 n hn 8 0 0 m rfl (by decide) hm
 exact ev_eq h (by unfold Gf.mul gm;simp)

theorem impl_power.ev_l0 : ∀ (N n : Nat) (a o : Int),n≤N→n < 4294967296→Byte a→Byte o→Ev (fun k=>impl_power.l0 k a (n : Int) o) (mul o (pow a n)):=by
 intro N
 induction N with
 | zero =>
  intro n a o hN hn ha ho
  obtain rfl : n=0:=by omega
  refine Ev.step (fun k=>impl_power.l0.eq_2 _ _ _ k) ?_
  exact ev_neg (by omega) (ev_now (by rw [pow_zero,mul_one ho]))
 | succ N ih =>
  intro n a o hN hn ha ho
  refine Ev.step (fun k=>impl_power.l0.eq_2 _ _ _ k) ?_
  by_cases h0 : n=0
  ·subst h0
   exact ev_neg (by omega) (ev_now (by rw [pow_zero,mul_one ho]))
  refine ev_pos (by omega) ?_
  have e : ((n : Int) / 2)=((n / 2 : Nat) : Int):=by omega
  have haa:=Byte.mul ha a
  have hsq : pow (mul a a) (n / 2)=pow a (2*(n / 2)):=by rw [pow_mul ha,pow_two ha]
  rw [and1_i64 hn,e]
  by_cases h1 : n % 2=1
  ·refine ev_pos (by omega) ?_
   refine ev_bind (impl_Times.ev ho ha) (ev_bind (impl_Times.ev ha ha) ?_)
   refine ev_eq (ih (n / 2) _ _ (by omega) (by omega) haa (Byte.mul ho a)) ?_
   have hn2 : n=1+2*(n / 2):=by omega
   rw [hsq,mul_assoc ho ha (Byte.pow ha _)]
   conv=>rhs;rw [hn2,pow_add ha,pow_one ha]
  ·refine ev_neg (by omega) ?_
   refine ev_bind (impl_Times.ev ha ha) ?_
   refine ev_eq (ih (n / 2) _ _ (by omega) (by omega) haa ho) ?_
   have hn2 : n=2*(n / 2):=by omega
   rw [hsq,← hn2]
theorem impl_power.ev {a : Int} (ha : Byte a) (n : Nat) (hn : n < 4294967296) : Ev (fun k=>impl_power.f k a (n : Int)) (pow a n):=by
 unfold impl_power.f
 refine ev_eq (impl_power.ev_l0 n n a 1 (Nat.le_refl _) hn ha .one) ?_
 exact one_mul (Byte.pow ha n)

theorem impl_within.ev (a b c : Int) : impl_within.f a b c=some (decide (b≤a∧a≤c)):=by
 unfold impl_within.f
 by_cases h : a ≥ b
 ·rw [if_pos h];simp [h]
 ·rw [if_neg h];simp;omega

theorem impl_GoodMsr.ev (n k : Int) : impl_GoodMsr.f n k=some (decide (GoodMsr n k)):=by
 unfold impl_GoodMsr.f
 simp only [impl_within.ev,Option.bind_some,decide_eq_true_eq]
 by_cases h : 2≤k∧k≤4
 ·have e : wrap64 (wrap64 (2*k) - 1)=2*k - 1:=by unfold wrap64;omega
  simp [h,e]
 ·simp [h]

theorem impl_Msr_alpha.ev {n k : Int} (h : GoodMsr n k) : impl_Msr_alpha.f n k=some (k - 1):=by
 unfold impl_Msr_alpha.f
 have e : wrap64 (k - 1)=k - 1:=by unfold wrap64;omega
 rw [e]

theorem msr_size {n k : Int} (h : GoodMsr n k) : wrap64 (k*(k - 1))=k*(k - 1):=by
 have : k=2∨k=3∨k=4:=by omega
 rcases this with rfl | rfl | rfl <;> (unfold wrap64;omega)
theorem impl_Msr_size.ev {n k : Int} (h : GoodMsr n k) : impl_Msr_size.f n k=some (k*(k - 1)):=by
 unfold impl_Msr_size.f
 simp only [impl_Msr_alpha.ev h,Option.bind_some,msr_size h]

theorem impl_filled.ev_l1 {E : Nat→Int→Int→Option Int} (n m : Nat) (f : Nat→Nat→Int) (hm : m≤1048576) (i : Nat) (hE : ∀ j,j < m→Ev (fun k=>E k (i : Int) (j : Int)) (f i j)) (out : List (List Int)) (ho : out.length < 5864062014805) {R : List (List Int)}
  (K : Ev (fun k=>impl_filled.l0 E k (m : Int) (out ++ [(List.range m).map (f i)]) (n : Int) (wrap64 ((i : Int)+1))) R) : ∀ (d j : Nat) (o : List Int),j+d=m→o=(List.range j).map (f i) →
  Ev (fun k=>impl_filled.l1 E k (m : Int) out (i : Int) o (n : Int) (i : Int) (m : Int) (j : Int)) R
 | 0,j,o,hj,hoj=>by
  refine Ev.step (fun k=>impl_filled.l1.eq_2 _ _ _ _ _ _ _ _ _ k) ?_
  refine ev_neg (by omega) (ev_pos ho ?_)
  rw [hoj,show j=m by omega]
  exact K
 | d+1,j,o,hj,hoj=>by
  have hol : o.length=j:=by rw [hoj];simp
  refine Ev.step (fun k=>impl_filled.l1.eq_2 _ _ _ _ _ _ _ _ _ k) ?_
  refine ev_pos (by omega) (ev_bind (hE j (by omega)) (ev_pos (by omega) ?_))
  rw [inc (by omega)]
  refine impl_filled.ev_l1 n m f hm i hE out ho K d (j+1) _ (by omega) ?_
  rw [hoj,List.range_succ,List.map_append]
  rfl
theorem impl_filled.ev_l0 {E : Nat→Int→Int→Option Int} (n m : Nat) (f : Nat→Nat→Int) (hn : n≤1048576) (hm : m≤1048576) (hE : ∀ i,i < n→∀ j,j < m→Ev (fun k=>E k (i : Int) (j : Int)) (f i j)) : ∀ (d i : Nat) (o : List (List Int)),i+d=n→o=tab i m f →
  Ev (fun k=>impl_filled.l0 E k (m : Int) o (n : Int) (i : Int)) (tab n m f)
 | 0,i,o,hi,ho=>by
  refine Ev.step (fun k=>impl_filled.l0.eq_2 _ _ _ _ _ k) ?_
  refine ev_neg (by omega) (ev_now ?_)
  rw [ho,show i=n by omega]
 | d+1,i,o,hi,ho=>by
  have hol : o.length=i:=by rw [ho,tab_length]
  have ih:=impl_filled.ev_l0 n m f hn hm hE d (i+1) (o ++ [(List.range m).map (f i)]) (by omega) (by
   rw [ho]
   unfold tab
   rw [List.range_succ,List.map_append]
   rfl)
  refine Ev.step (fun k=>impl_filled.l0.eq_2 _ _ _ _ _ k) ?_
  refine ev_pos (by omega) ?_
  exact impl_filled.ev_l1 n m f hm i (hE i (by omega)) o (by omega) (by rw [inc (by omega)];exact ih) m 0 [] (by omega) rfl
theorem impl_filled.ev {E : Nat→Int→Int→Option Int} (n m : Nat) (f : Nat→Nat→Int) (hn : n≤1048576) (hm : m≤1048576) (hE : ∀ i,i < n→∀ j,j < m→Ev (fun k=>E k (i : Int) (j : Int)) (f i j)) : Ev (fun k=>impl_filled.f E k (n : Int) (m : Int)) (tab n m f):=by
 unfold impl_filled.f
 exact impl_filled.ev_l0 n m f hn hm hE n 0 [] (by omega) rfl

def placeM (a : Nat) : List (List Int):=tab (2*a) a fun r j=>(plc a r j : Int)
theorem impl_Msr_places.ev {n : Int} {a : Nat} (hg : GoodMsr n ((a+1 : Nat) : Int)) : Ev (fun k=>impl_Msr_places.f k n ((a+1 : Nat) : Int)) (placeM a):=by
 refine Ev.of (k:=60) (fun k=>impl_Msr_places.mono _ _ k) ?_
 unfold impl_Msr_places.f
 rw [impl_Msr_alpha.ev hg]
 simp only [Option.bind_some]
 have h : a=1∨a=2∨a=3:=by omega
 rcases h with rfl | rfl | rfl
 ·show _=_;kernel_rfl
 ·show _=_;kernel_rfl
 ·show _=_;kernel_rfl

theorem impl_Msr_message.ev {n : Int} {a : Nat} (hg : GoodMsr n ((a+1 : Nat) : Int)) {D : List Int} (hl : D.length=a*(a+1)) : Ev (fun k=>impl_Msr_message.f k n ((a+1 : Nat) : Int) D) (msgM a D):=by
 unfold impl_Msr_message.f
 refine ev_bind (impl_Msr_places.ev hg) ?_
 rw [impl_Msr_alpha.ev hg]
 simp only [Option.bind_some]
 have ha1 : 1≤a:=by omega
 have ha3 : a≤3:=by omega
 have e1 : wrap64 (2*(((a+1 : Nat) : Int) - 1))=((2*a : Nat) : Int):=by unfold wrap64;omega
 have e2 : (((a+1 : Nat) : Int) - 1)=(a : Int):=by omega
 rw [e1,e2]
 refine impl_filled.ev (2*a) a (fun r j=>D.getD (plc a r j) 0) (by omega) (by omega) (fun i hi j hj=>?_)
 have hr : rd_II (placeM a) (i : Int)=(List.range a).map fun j=>(plc a i j : Int):=by
  unfold rd_II
  rw [Int.toNat_natCast]
  exact tab_getD hi
 have hv : rd ((List.range a).map fun j=>(plc a i j : Int)) (j : Int)=(plc a i j : Int):=by
  rw [rd_nat]
  simp [List.getD,hj]
 have hp:=plc_lt ha1 ha3 hi hj
 unfold impl_Msr_message.E
 rw [hr,hv]
 refine ev_pos ⟨⟨by omega,?_⟩,⟨by omega,?_⟩,by omega,by omega⟩ (ev_now (rd_nat _ _))
 ·unfold placeM
  rw [tab_length]
  omega
 ·rw [List.length_map,List.length_range]
  omega

theorem impl_MessageOf.ev (n k : Int) (D : List Int) : Ev (fun q=>impl_MessageOf.f q n k D) (msgVal n k D):=by
 unfold impl_MessageOf.f msgVal
 simp only [impl_GoodMsr.ev,Option.bind_some,decide_eq_true_eq]
 by_cases h : GoodMsr n k
 ·refine ev_pos h ?_
  obtain ⟨a,m,rfl,rfl,ha1,ha3,hm1,hm2⟩:=GoodMsr_nat h
  simp only [impl_Msr_size.ev h,Option.bind_some]
  rw [msg_size]
  by_cases c : (D.length : Int)=((a*(a+1) : Nat) : Int)
  ·rw [if_pos ⟨h,c⟩]
   exact ev_pos c (ev_bind (impl_Msr_message.ev h (by omega)) (ev_now rfl))
  ·rw [if_neg (fun z=>c z.2)]
   exact ev_neg c (ev_now rfl)
 ·rw [if_neg (fun z=>h z.1)]
  exact ev_neg h (ev_now rfl)

def encVal (n k : Int) (D : List Int) : List Pc × Bool:=if GoodMsr n k∧(D.length : Int)=k*(k - 1) then (encL n.toNat (k.toNat - 1) D,true) else ([],false)
theorem enc_wrap {n k : Int} (h : GoodMsr n k) : wrap64 (k*(k - 1))=k*(k - 1):=by
 have : k=2∨k=3∨k=4:=by omega
 rcases this with rfl | rfl | rfl <;> (unfold wrap64;omega)
theorem enc_size {a : Nat} : ((a+1 : Nat) : Int)*(((a+1 : Nat) : Int) - 1)=((a*(a+1) : Nat) : Int):=by
 have e : ((a+1 : Nat) : Int) - 1=(a : Int):=by omega
 rw [e,← Int.natCast_mul,Nat.mul_comm]
theorem spec_EncodeMsr.ev (n k : Int) {D : List Int} (hb : Bytes D) : Ev (fun q=>spec_EncodeMsr.f q n k D) (encVal n k D):=by
 unfold spec_EncodeMsr.f encVal
 simp only [spec_GoodMsr.ev,Option.bind_some,decide_eq_true_eq]
 by_cases h : GoodMsr n k
 ·refine ev_pos h ?_
  obtain ⟨a,m,rfl,rfl,ha1,ha3,hm1,hm2⟩:=GoodMsr_nat h
  have e : wrap64 (((a+1 : Nat) : Int)*wrap64 (((a+1 : Nat) : Int) - 1))=((a*(a+1) : Nat) : Int):=by
   rw [show wrap64 (((a+1 : Nat) : Int) - 1)=((a+1 : Nat) : Int) - 1 by unfold wrap64;omega,enc_wrap h,enc_size]
  rw [e,enc_size]
  by_cases c : (D.length : Int)=((a*(a+1) : Nat) : Int)
  ·rw [if_pos ⟨h,c⟩]
   exact ev_pos c (ev_bind (spec_l5Encode.ev ha1 ha3 hm2 hb (by omega)) (ev_now rfl))
  ·rw [if_neg (fun z=>c z.2)]
   exact ev_neg c (ev_now rfl)
 ·rw [if_neg (fun z=>h z.1)]
  exact ev_neg h (ev_now rfl)

theorem impl_dot.ev_l0 (v w : List Int) (hv : Bytes v) (hw : Bytes w) (hl : v.length=w.length) (hs : v.length < 140737488355328) : ∀ (n i : Nat) (o : Int),i+n=v.length→Byte o →
  Ev (fun k=>impl_dot.l0 k w o v (v.length : Int) (i : Int)) (gx o (dotV (v.drop i) (w.drop i)))
 | 0,i,o,hi,ho=>by
  refine Ev.step (fun k=>impl_dot.l0.eq_2 _ _ _ _ _ k) ?_
  refine ev_neg (by omega) (ev_now ?_)
  rw [List.drop_of_length_le (by omega)]
  exact (gx_zero ho).symm
 | n+1,i,o,hi,ho=>by
  refine Ev.step (fun k=>impl_dot.l0.eq_2 _ _ _ _ _ k) ?_
  refine ev_pos (by omega) (ev_pos (by omega) (ev_pos (by omega) (ev_pos (by omega) ?_)))
  have bv : Byte (rd v (i : Int)):=bytes_rd hv (by omega)
  have bw : Byte (rd w (i : Int)):=bytes_rd hw (by omega)
  refine ev_bind (impl_Times.ev bv bw) ?_
  have bm:=Byte.mul bv (rd w (i : Int))
  have bg:=Byte.gx ho bm
  rw [inc (by omega),xor_u8 ho bm]
  refine ev_eq (impl_dot.ev_l0 v w hv hw hl hs n (i+1) _ (by omega) bg) ?_
  rw [drop_cons (l:=v) (i:=i) (by omega),drop_cons (l:=w) (i:=i) (by omega),rd_get (by omega),rd_get (by omega),dotV,gx_assoc]
theorem impl_dot.ev {v w : List Int} (hv : Bytes v) (hw : Bytes w) (hl : v.length=w.length) (hs : v.length < 140737488355328) : Ev (fun k=>impl_dot.f k v w) (dotV v w):=by
 unfold impl_dot.f
 refine ev_eq (impl_dot.ev_l0 v w hv hw hl hs v.length 0 0 (by omega) .zero) ?_
 exact zero_gx (dotV_byte hv)

theorem impl_column.ev_l0 (l : List (List Int)) (c j : Nat) (hl : l.length≤1048576) (hj : j < c) (hc : ∀ i,i < l.length→(l.getD i []).length=c) : ∀ (d i : Nat) (o : List Int),i+d=l.length→o=(List.range i).map (fun b=>(l.getD b []).getD j 0) →
  Ev (fun k=>impl_column.l0 k (j : Int) o l (l.length : Int) (i : Int)) ((List.range l.length).map fun b=>(l.getD b []).getD j 0)
 | 0,i,o,hi,ho=>by
  refine Ev.step (fun k=>impl_column.l0.eq_2 _ _ _ _ _ k) ?_
  refine ev_neg (by omega) (ev_now ?_)
  rw [ho,show i=l.length by omega]
 | d+1,i,o,hi,ho=>by
  have e:=hc i (by omega)
  have hol : o.length=i:=by rw [ho];simp
  refine Ev.step (fun k=>impl_column.l0.eq_2 _ _ _ _ _ k) ?_
  simp only [rdSS0,Int.toNat_natCast]
  refine ev_pos (by omega) (ev_pos (by omega) (ev_pos (by omega) (ev_pos (by omega) (ev_pos (by omega) (ev_pos (by omega) ?_)))))
  rw [inc (by omega)]
  refine impl_column.ev_l0 l c j hl hj hc d (i+1) _ (by omega) ?_
  rw [ho,List.range_succ,List.map_append,rd_nat]
  rfl
theorem impl_column.ev (l : List (List Int)) (c j : Nat) (hl : l.length≤1048576) (hj : j < c) (hc : ∀ i,i < l.length→(l.getD i []).length=c) : Ev (fun k=>impl_column.f k l (j : Int)) ((List.range l.length).map fun b=>(l.getD b []).getD j 0):=by
 unfold impl_column.f
 exact impl_column.ev_l0 l c j hl hj hc l.length 0 [] (by omega) rfl

theorem impl_transposed.ev_l0 (l : List (List Int)) (hg : goodM l=true) : ∀ (d j : Nat) (o : List (List Int)),j+d=(l.getD 0 []).length→o=tab j l.length (fun j i=>(l.getD i []).getD j 0) →
  Ev (fun k=>impl_transposed.l0 k l o ((l.getD 0 []).length : Int) (j : Int)) (trM l)
 | 0,j,o,hj,ho=>by
  refine Ev.step (fun k=>impl_transposed.l0.eq_2 _ _ _ _ k) ?_
  refine ev_neg (by omega) (ev_now ?_)
  rw [ho,show j=(l.getD 0 []).length by omega]
  rfl
 | d+1,j,o,hj,ho=>by
  have hf:=goodM_iff hg
  have hol : o.length=j:=by rw [ho,tab_length]
  refine Ev.step (fun k=>impl_transposed.l0.eq_2 _ _ _ _ k) ?_
  refine ev_pos (by omega) (ev_bind (impl_column.ev l _ j (by omega) (by omega) hf.2.2) (ev_pos (by omega) ?_))
  rw [inc (by omega)]
  refine impl_transposed.ev_l0 l hg d (j+1) _ (by omega) ?_
  rw [ho]
  unfold tab
  rw [List.range_succ,List.map_append]
  rfl
theorem impl_transposed.ev (l : List (List Int)) (hg : goodM l=true) : Ev (fun k=>impl_transposed.f k l) (trM l):=by
 have hf:=goodM_iff hg
 unfold impl_transposed.f
 refine ev_pos (by omega) ?_
 simp only [rdSS0,Int.toNat_zero]
 exact impl_transposed.ev_l0 l hg (l.getD 0 []).length 0 [] (by omega) rfl

theorem impl_product.ev_l1 (a b : List (List Int)) (ha : matBytes a) (hb : matBytes b) (hg : goodM a=true) (hg2 : goodM b=true) (hp : (a.getD 0 []).length=b.length) (i : Nat) (hi : i < a.length) (out : List (List Int)) (ho : out.length < 5864062014805) {R : List (List Int)}
  (K : Ev (fun q=>impl_product.l0 q (trM b) (out ++ [(List.range (b.getD 0 []).length).map fun j=>prodAt a b i j b.length]) a (a.length : Int) (wrap64 ((i : Int)+1))) R) : ∀ (d j : Nat) (o : List Int),j+d=(b.getD 0 []).length→o=(List.range j).map (fun j=>prodAt a b i j b.length) →
  Ev (fun q=>impl_product.l1 q (trM b) out (a.getD i []) o a (a.length : Int) (i : Int) (trM b) ((trM b).length : Int) (j : Int)) R
 | 0,j,o,hj,hoj=>by
  have hl : (trM b).length=(b.getD 0 []).length:=tab_length _ _ _
  refine Ev.step (fun q=>impl_product.l1.eq_2 _ _ _ _ _ _ _ _ _ _ q) ?_
  refine ev_neg (by omega) (ev_pos ho ?_)
  rw [hoj,show j=(b.getD 0 []).length by omega]
  exact K
 | d+1,j,o,hj,hoj=>by
  have hl : (trM b).length=(b.getD 0 []).length:=tab_length _ _ _
  have hf:=goodM_iff hg2
  have hf1:=goodM_iff hg
  have e:=hf1.2.2 i hi
  have hol : o.length=j:=by rw [hoj];simp
  have hrow : (trM b).getD j []=(List.range b.length).map fun k=>(b.getD k []).getD j 0:=tab_getD (by omega)
  refine Ev.step (fun q=>impl_product.l1.eq_2 _ _ _ _ _ _ _ _ _ _ q) ?_
  simp only [rdSS0,Int.toNat_natCast]
  refine ev_pos (by omega) (ev_pos (by omega) (ev_pos (by omega) ?_))
  rw [hrow]
  have hd:=impl_dot.ev (v:=a.getD i []) (w:=(List.range b.length).map fun k=>(b.getD k []).getD j 0) (matBytes_row ha i) (fun z hz=>by
   simp only [List.mem_map] at hz
   obtain ⟨k,_,rfl⟩:=hz
   exact matBytes_get hb k j) (by rw [List.length_map,List.length_range];omega) (by omega)
  rw [prodM_dot ha (by omega)] at hd
  refine ev_bind hd (ev_pos (by omega) ?_)
  rw [inc (by omega)]
  refine impl_product.ev_l1 a b ha hb hg hg2 hp i hi out ho K d (j+1) _ (by omega) ?_
  rw [hoj,List.range_succ,List.map_append]
  rfl
theorem impl_product.ev_l0 (a b : List (List Int)) (ha : matBytes a) (hb : matBytes b) (hg : goodM a=true) (hg2 : goodM b=true) (hp : (a.getD 0 []).length=b.length) : ∀ (d i : Nat) (o : List (List Int)),i+d=a.length→o=tab i (b.getD 0 []).length (fun i j=>prodAt a b i j b.length) →
  Ev (fun q=>impl_product.l0 q (trM b) o a (a.length : Int) (i : Int)) (prodM a b)
 | 0,i,o,hi,ho=>by
  refine Ev.step (fun q=>impl_product.l0.eq_2 _ _ _ _ _ q) ?_
  refine ev_neg (by omega) (ev_now ?_)
  rw [ho,show i=a.length by omega]
  rfl
 | d+1,i,o,hi,ho=>by
  have hf1:=goodM_iff hg
  have hol : o.length=i:=by rw [ho,tab_length]
  have ih:=impl_product.ev_l0 a b ha hb hg hg2 hp d (i+1) (o ++ [(List.range (b.getD 0 []).length).map fun j=>prodAt a b i j b.length]) (by omega) (by
   rw [ho]
   unfold tab
   rw [List.range_succ,List.map_append]
   rfl)
  refine Ev.step (fun q=>impl_product.l0.eq_2 _ _ _ _ _ q) ?_
  simp only [rdSS0,Int.toNat_natCast]
  refine ev_pos (by omega) (ev_pos (by omega) (ev_pos (by omega) ?_))
  exact impl_product.ev_l1 a b ha hb hg hg2 hp i (by omega) o (by omega) (by rw [inc (by omega)];exact ih) (b.getD 0 []).length 0 [] (by omega) rfl
theorem impl_product.ev (a b : List (List Int)) (ha : matBytes a) (hb : matBytes b) (hg : goodM a=true) (hg2 : goodM b=true) (hp : (a.getD 0 []).length=b.length) : Ev (fun q=>impl_product.f q a b) (prodM a b):=by
 unfold impl_product.f
 refine ev_bind (impl_transposed.ev b hg2) ?_
 exact impl_product.ev_l0 a b ha hb hg hg2 hp a.length 0 [] (by omega) rfl

theorem impl_Msr_powers.ev_l0 {n : Int} (a j : Nat) (hg : GoodMsr n ((a+1 : Nat) : Int)) : ∀ (d i : Nat) (o : List Int),i+d=a→o=(shortR a j).take i →
  Ev (fun k=>impl_Msr_powers.l0 k (nodeX j) o (a : Int) (i : Int) n ((a+1 : Nat) : Int)) (shortR a j,pow (nodeX j) a)
 | 0,i,o,hi,ho=>by
  have e : ((a+1 : Nat) : Int) - 1=(a : Int):=by omega
  refine Ev.step (fun k=>impl_Msr_powers.l0.eq_2 _ _ _ _ _ _ k) ?_
  refine ev_neg (by omega) ?_
  simp only [impl_Msr_alpha.ev hg,Option.bind_some,e]
  refine ev_bind (impl_power.ev (nodeX_byte j) a (by omega)) (ev_now ?_)
  rw [ho,List.take_of_length_le (by rw [shortR_length];omega)]
 | d+1,i,o,hi,ho=>by
  have hl : o.length≤3:=by rw [ho,List.length_take,shortR_length];omega
  refine Ev.step (fun k=>impl_Msr_powers.l0.eq_2 _ _ _ _ _ _ k) ?_
  refine ev_pos (by omega) ?_
  refine ev_bind (impl_power.ev (nodeX_byte j) i (by omega)) (ev_pos (by omega) ?_)
  rw [inc (by omega)]
  exact impl_Msr_powers.ev_l0 a j hg d (i+1) _ (by omega) (by rw [shortR_succ a j i (by omega),← ho])
theorem impl_Msr_powers.ev {n : Int} (a j : Nat) (hg : GoodMsr n ((a+1 : Nat) : Int)) (hj : j < 1000000) : Ev (fun k=>impl_Msr_powers.f k n ((a+1 : Nat) : Int) (j : Int)) (shortR a j,pow (nodeX j) a):=by
 unfold impl_Msr_powers.f
 have e : ((a+1 : Nat) : Int) - 1=(a : Int):=by omega
 rw [inc (by omega)]
 refine ev_bind (impl_power.ev byte3 (j+1) (by omega)) ?_
 simp only [impl_Msr_alpha.ev hg,Option.bind_some,e]
 exact impl_Msr_powers.ev_l0 a j hg a 0 [] (by omega) rfl

theorem impl_scaled.ev_l0 (a : Int) (ha : Byte a) (v : List Int) (hv : Bytes v) (hs : v.length < 140737488355328) : ∀ (n i : Nat) (o : List Int),i+n=v.length→o=(scale a v).take i →
  Ev (fun k=>impl_scaled.l0 k a o v (v.length : Int) (i : Int)) (scale a v)
 | 0,i,o,hi,ho=>by
  refine Ev.step (fun k=>impl_scaled.l0.eq_2 _ _ _ _ _ k) ?_
  refine ev_neg (by omega) (ev_now ?_)
  subst ho
  rw [List.take_of_length_le (by rw [scale_length];omega)]
 | n+1,i,o,hi,ho=>by
  have hz:=scale_length a v
  have hlen : o.length=i:=by rw [ho,List.length_take,hz];omega
  refine Ev.step (fun k=>impl_scaled.l0.eq_2 _ _ _ _ _ k) ?_
  refine ev_pos (by omega) (ev_pos (by omega) (ev_pos (by omega) ?_))
  refine ev_bind (impl_Times.ev ha (bytes_rd hv (by omega))) ?_
  refine ev_pos (by omega) ?_
  rw [inc (by omega),rd_get (by omega)]
  refine impl_scaled.ev_l0 a ha v hv hs n (i+1) _ (by omega) ?_
  rw [List.take_succ_eq_append_getElem (by omega),← ho]
  simp [scale]
theorem impl_scaled.ev {a : Int} (ha : Byte a) {v : List Int} (hv : Bytes v) (hs : v.length < 140737488355328) : Ev (fun k=>impl_scaled.f k a v) (scale a v):=by
 unfold impl_scaled.f
 exact impl_scaled.ev_l0 a ha v hv hs v.length 0 [] (by omega) rfl

theorem impl_Msr_row.ev {n : Int} (a j : Nat) (hg : GoodMsr n ((a+1 : Nat) : Int)) (hj : j < 1000000) : Ev (fun k=>impl_Msr_row.f k n ((a+1 : Nat) : Int) (j : Int)) (msrRow a j):=by
 unfold impl_Msr_row.f
 have hl:=shortR_length a j
 have hs:=scale_length (pow (nodeX j) a) (shortR a j)
 refine ev_bind (impl_Msr_powers.ev a j hg hj) ?_
 dsimp only
 exact ev_bind (impl_scaled.ev (Byte.pow (nodeX_byte j) a) (shortR_bytes a j) (by omega)) (ev_pos (by omega) (ev_now rfl))

theorem impl_EncodeMsr.ev_l0 {a m : Nat} (hg : GoodMsr (m : Int) ((a+1 : Nat) : Int)) {D : List Int} (hb : Bytes D) : ∀ (d i : Nat),i+d=m→Ev (fun k=>impl_EncodeMsr.l0 k (msgM a D) ((encL m a D).take i) (m : Int) (i : Int) (m : Int) ((a+1 : Nat) : Int)) (encL m a D,true)
 | 0,i,hi=>by
  have hz:=encL_length m a D
  refine Ev.step (fun k=>impl_EncodeMsr.l0.eq_2 _ _ _ _ _ _ k) ?_
  refine ev_neg (by omega) (ev_now ?_)
  rw [List.take_of_length_le (by omega)]
 | d+1,i,hi=>by
  have hz:=encL_length m a D
  have h1 : 1≤a:=by omega
  have h3 : a≤3:=by omega
  have hr:=msrRow_length a i
  have hrb:=msrRow_bytes a i
  have hml:=msgM_length a D
  have hgr : goodM [msrRow a i]=true:=goodM_same (n:=2*a) (fun r hr2=>by rw [List.mem_singleton.1 hr2];exact hr) (by simp) (by simp) (by omega) (by omega)
  have hp : (prodM [msrRow a i] (msgM a D)).length=1:=tab_length _ _ _
  refine Ev.step (fun k=>impl_EncodeMsr.l0.eq_2 _ _ _ _ _ _ k) ?_
  refine ev_pos (by omega) (ev_bind (impl_Msr_row.ev a i hg (by omega)) (ev_bind (impl_product.ev [msrRow a i] (msgM a D) (fun r hr2=>by rw [List.mem_singleton.1 hr2];exact hrb) (msgM_bytes a hb) hgr (msgM_good h1 h3 D) (hr.trans hml.symm)) (ev_pos (by omega) (ev_pos (by rw [List.length_take];omega) ?_))))
  rw [row_product (msgM_bytes a hb) hrb (hr.trans hml.symm),show (⟨(i : Int),applyM (trM (msgM a D)) (msrRow a i)⟩ : Pc)=pieceAt a D i from rfl,← encL_succ m a D i (by omega),inc (by omega)]
  exact impl_EncodeMsr.ev_l0 hg hb d (i+1) (by omega)
theorem impl_EncodeMsr.ev (n k : Int) {D : List Int} (hb : Bytes D) : Ev (fun q=>impl_EncodeMsr.f q n k D) (encVal n k D):=by
 unfold impl_EncodeMsr.f encVal
 simp only [impl_GoodMsr.ev,Option.bind_some,decide_eq_true_eq]
 by_cases h : GoodMsr n k
 ·refine ev_pos h ?_
  obtain ⟨a,m,rfl,rfl,ha1,ha3,hm1,hm2⟩:=GoodMsr_nat h
  simp only [impl_Msr_size.ev h,Option.bind_some]
  rw [enc_size]
  refine Ev.step (fun k=>impl_EncodeMsr.j0.eq_2 _ _ _ _ k) ?_
  by_cases c : (D.length : Int)=((a*(a+1) : Nat) : Int)
  ·rw [if_pos ⟨h,c⟩]
   refine ev_neg (by simp [c]) (ev_bind (impl_Msr_message.ev h (by omega)) ?_)
   exact impl_EncodeMsr.ev_l0 h hb m 0 (by omega)
  ·rw [if_neg (fun z=>c z.2)]
   exact ev_pos (bne_iff_ne.2 c) (ev_now rfl)
 ·rw [if_neg (fun z=>h z.1)]
  refine ev_neg h ?_
  refine Ev.step (fun k=>impl_EncodeMsr.j0.eq_2 _ _ _ _ k) ?_
  exact ev_pos rfl (ev_now rfl)

theorem wrap_id' {i : Int} (h : -9223372036854775808≤i) (h1 : i < 9223372036854775808) : wrap64 i=i:=by unfold wrap64;omega
theorem laws_someOf.some_l0 (n least : Nat) (more : List Int) (hn : n≤1000) (hl : least≤n) : ∀ (d i : Nat) (o : List Int),i+d=n→upTo i o→o.length≤i→least≤o.length+d →
  ∃ t,Ev (fun k=>laws_someOf.l0 k (n : Int) (least : Int) more o (i : Int)) t∧upTo n t∧least≤t.length
 | 0,i,o,hi,ho,hol,hc=>by
  refine ⟨o,?_,upTo_more ho (by omega),by omega⟩
  refine Ev.step (fun k=>laws_someOf.l0.eq_2 _ _ _ _ _ k) ?_
  exact ev_neg (by omega) (ev_now rfl)
 | d+1,i,o,hi,ho,hol,hc=>by
  have w1 : wrap64 ((n : Int) - (i : Int))=(n : Int) - (i : Int):=wrap_id' (by omega) (by omega)
  have w2 : wrap64 ((least : Int) - (o.length : Int))=(least : Int) - (o.length : Int):=wrap_id' (by omega) (by omega)
  have hs : (o ++ [(i : Int)]).length=o.length+1:=by simp
  have yes : ∃ t,Ev (fun k=>laws_someOf.l0 k (n : Int) (least : Int) more (o ++ [(i : Int)]) (wrap64 ((i : Int)+1))) t∧upTo n t∧least≤t.length:=by
   rw [inc (by omega)]
   exact laws_someOf.some_l0 n least more hn hl d (i+1) (o ++ [(i : Int)]) (by omega) (upTo_snoc ho) (by omega) (by omega)
  by_cases c2 : (n : Int) - (i : Int)≤(least : Int) - (o.length : Int)
  ·obtain ⟨t,e,h2,h3⟩:=yes
   refine ⟨t,?_,h2,h3⟩
   refine Ev.step (fun k=>laws_someOf.l0.eq_2 _ _ _ _ _ k) ?_
   rw [w1,w2]
   refine ev_pos (by omega) ?_
   by_cases c1 : (i : Int) < (more.length : Int)
   ·exact ev_pos c1 (ev_pos (by omega) (ev_pos c2 (ev_pos (by omega) e)))
   ·exact ev_neg c1 (ev_pos c2 (ev_pos (by omega) e))
  ·by_cases c1 : (i : Int) < (more.length : Int)
   ·by_cases c3 : Int.tmod (wrap64 (rd more (i : Int))) 2=0
    ·obtain ⟨t,e,h2,h3⟩:=yes
     refine ⟨t,?_,h2,h3⟩
     refine Ev.step (fun k=>laws_someOf.l0.eq_2 _ _ _ _ _ k) ?_
     rw [w1,w2]
     exact ev_pos (by omega) (ev_pos c1 (ev_pos (by omega) (ev_neg c2 (ev_pos c3 (ev_pos (by omega) e)))))
    ·obtain ⟨t,e,h2,h3⟩:=laws_someOf.some_l0 n least more hn hl d (i+1) o (by omega) (upTo_more ho (by omega)) (by omega) (by omega)
     refine ⟨t,?_,h2,h3⟩
     refine Ev.step (fun k=>laws_someOf.l0.eq_2 _ _ _ _ _ k) ?_
     rw [w1,w2]
     refine ev_pos (by omega) (ev_pos c1 (ev_pos (by omega) (ev_neg c2 (ev_neg c3 ?_))))
     rw [inc (by omega)]
     exact e
   ·obtain ⟨t,e,h2,h3⟩:=yes
    refine ⟨t,?_,h2,h3⟩
    refine Ev.step (fun k=>laws_someOf.l0.eq_2 _ _ _ _ _ k) ?_
    rw [w1,w2]
    exact ev_pos (by omega) (ev_neg c1 (ev_neg c2 (ev_pos (by decide) (ev_pos (by omega) e))))
theorem laws_someOf.some_ (n least : Nat) (more : List Int) (hn : n≤1000) (hl : least≤n) : ∃ t,Ev (fun k=>laws_someOf.f k (n : Int) (least : Int) more) t∧upTo n t∧least≤t.length :=
 laws_someOf.some_l0 n least more hn hl n 0 [] (by omega) (upTo_nil 0) (by simp) (by simpa using hl)

theorem spec_l1Cur_msr.some_ {s : List Int} (hs : Bytes s) {a z : Int} (h0 : 0≤a) (h1 : a≤4611686018427380000) : ∃ n k b z',spec_l1Cur_msr.f s a z=some (n,k,b,z')∧(0≤n∧n≤17)∧(0≤k∧k≤6)∧a≤b∧b≤a+10:=by
 obtain ⟨x,b1,z1,e1,hx0,hx1,p0,p1⟩:=spec_l1Cur_pick.some_ hs (a:=a) (z:=z) (n:=3) h0 (by omega) (by decide)
 obtain ⟨y,b2,z2,e2,hy0,hy1,q0,q1⟩:=spec_l1Cur_pick.some_ hs (a:=b1) (z:=z1) (n:=4) (by omega) (by omega) (by decide)
 obtain ⟨u,b3,z3,e3,r0,r1⟩:=spec_l1Cur_one.some_ hs (a:=b2) (z:=z2) (n:=20) (by omega) (by omega) (by decide)
 unfold spec_l1Cur_msr.f
 rw [e1]
 simp only [Option.bind_some]
 rw [e2]
 simp only [Option.bind_some]
 rw [e3]
 simp only [Option.bind_some]
 by_cases c : u=true
 ·obtain ⟨n,b4,z4,e4,hn0,hn1,s0,s1⟩:=spec_l1Cur_pick.some_ hs (a:=b3) (z:=z3) (n:=17) (by omega) (by omega) (by decide)
  obtain ⟨k,b5,z5,e5,hk0,hk1,t0,t1⟩:=spec_l1Cur_pick.some_ hs (a:=b4) (z:=z4) (n:=7) (by omega) (by omega) (by decide)
  rw [if_pos c,e4]
  simp only [Option.bind_some]
  rw [e5]
  exact ⟨n,k,b5,z5,rfl,⟨hn0,by omega⟩,⟨hk0,by omega⟩,by omega,by omega⟩
 ·rw [if_neg c]
  refine ⟨_,_,b3,z3,rfl,?_,?_,by omega,by omega⟩
  ·have w1 : wrap64 (2+x)=2+x:=wrap_id (by omega) (by omega)
   have w2 : wrap64 (2*(2+x))=2*(2+x):=wrap_id (by omega) (by omega)
   have w3 : wrap64 (2*(2+x) - 1)=2*(2+x) - 1:=wrap_id (by omega) (by omega)
   have w4 : wrap64 (2*(2+x) - 1+y)=2*(2+x) - 1+y:=wrap_id (by omega) (by omega)
   rw [w1,w2,w3,w4]
   omega
  ·rw [wrap_id (by omega) (by omega)]
   omega
theorem small_kk {k : Int} (h0 : 0≤k) (h1 : k≤6) : wrap64 (k*(wrap64 (k - 1)))=k*(k - 1)∧0≤k*(k - 1)∧k*(k - 1)≤30:=by
 have h : k=0∨k=1∨k=2∨k=3∨k=4∨k=5∨k=6:=by omega
 rcases h with rfl | rfl | rfl | rfl | rfl | rfl | rfl <;> (unfold wrap64;omega)

theorem spec_DrawEncodeMsr.some_j1 {s : List Int} (hs : Bytes s) {a z : Int} (h0 : 0≤a) (h1 : a≤4611686018427370000) (c : Int) (hc0 : 0≤c) (hc : c≤100) (n k : Int) : ∃ D b z',Ev (fun q=>spec_DrawEncodeMsr.j1 q c s a z n k) (n,k,D,b,z')∧Bytes D∧D.length≤100:=by
 obtain ⟨i,rfl⟩:=Int.eq_ofNat_of_zero_le hc0
 obtain ⟨D,b,z',e,hD,hl,_,_⟩:=spec_l1Cur_vector.some_n hs (z:=z) i (by omega) h0 h1
 refine ⟨D,b,z',Ev.step (fun q=>spec_DrawEncodeMsr.j1.eq_2 _ _ _ _ _ _ q) ?_,hD,by omega⟩
 exact ev_bind e (ev_now rfl)
theorem spec_DrawEncodeMsr.some_j0 {s : List Int} (hs : Bytes s) {a z : Int} (h0 : 0≤a) (h1 : a≤4611686018427360000) (c : Int) (hc0 : 0≤c) (hc : c≤100) (n k : Int) (x : Bool) : ∃ D b z',Ev (fun q=>spec_DrawEncodeMsr.j0 q c x s a z n k) (n,k,D,b,z')∧Bytes D∧D.length≤100:=by
 by_cases hx : x=true
 ·obtain ⟨t,b,z1,e,ht0,ht1,q0,q1⟩:=spec_l1Cur_pick.some_ hs (a:=a) (z:=z) (n:=9) h0 (by omega) (by decide)
  obtain ⟨D,b2,z2,e2,hD,hl⟩:=spec_DrawEncodeMsr.some_j1 hs (a:=b) (z:=z1) (by omega) (by omega) t ht0 (by omega) n k
  refine ⟨D,b2,z2,Ev.step (fun q=>spec_DrawEncodeMsr.j0.eq_2 _ _ _ _ _ _ _ q) (ev_pos hx ?_),hD,hl⟩
  rw [e]
  exact e2
 ·obtain ⟨D,b2,z2,e2,hD,hl⟩:=spec_DrawEncodeMsr.some_j1 hs (a:=a) (z:=z) h0 (by omega) c hc0 hc n k
  exact ⟨D,b2,z2,Ev.step (fun q=>spec_DrawEncodeMsr.j0.eq_2 _ _ _ _ _ _ _ q) (ev_neg hx e2),hD,hl⟩
theorem spec_DrawEncodeMsr.some_ {s : List Int} (hs : Bytes s) : ∃ n k D,Ev (fun q=>spec_DrawEncodeMsr.f q s) (n,k,D)∧Bytes D∧D.length≤100:=by
 obtain ⟨n,k,b,z1,e,hn,hk,hb0,hb1⟩:=spec_l1Cur_msr.some_ hs (a:=0) (z:=0) (by decide) (by decide)
 obtain ⟨u,b2,z2,e2,r0,r1⟩:=spec_l1Cur_one.some_ hs (a:=b) (z:=z1) (n:=12) (by omega) (by omega) (by decide)
 obtain ⟨w1,w2,w3⟩:=small_kk hk.1 hk.2
 have key:=fun x=>spec_DrawEncodeMsr.some_j0 hs (a:=b2) (z:=z2) (by omega) (by omega) (k*(k - 1)) w2 (by omega) n k x
 have main : ∃ D b' z',Ev (fun q=>spec_DrawEncodeMsr.g q s 0 0) (n,k,D,b',z')∧Bytes D∧D.length≤100:=by
  unfold spec_DrawEncodeMsr.g
  rw [e]
  simp only [Option.bind_some]
  rw [e2]
  simp only [Option.bind_some]
  rw [w1]
  by_cases c : u=true
  ·obtain ⟨D,b',z',h1,h2,h3⟩:=key true
   exact ⟨D,b',z',ev_pos c h1,h2,h3⟩
  ·obtain ⟨D,b',z',h1,h2,h3⟩:=key (decide (k*(k - 1) < 0))
   exact ⟨D,b',z',ev_neg c h1,h2,h3⟩
 obtain ⟨D,b',z',h1,h2,h3⟩:=main
 exact ⟨n,k,D,ev_bind h1 (ev_now rfl),h2,h3⟩

theorem impl_MsrSizes.ev (n k : Int) : impl_MsrSizes.f n k=some (spec_MsrSizes.val n k):=by
 unfold impl_MsrSizes.f spec_MsrSizes.val
 simp only [impl_GoodMsr.ev,Option.bind_some,decide_eq_true_eq]
 by_cases h : GoodMsr n k
 ·have e2 : wrap64 (2*(k - 1))=2*(k - 1):=by unfold wrap64;omega
  rw [if_pos h,if_pos h]
  simp only [impl_Msr_alpha.ev h,impl_Msr_size.ev h,Option.bind_some,e2]
 ·rw [if_neg h,if_neg h]

theorem laws_sameBytes.ev (l : List Int) : laws_sameBytes.f l l=some true:=by
 unfold laws_sameBytes.f
 rw [beq_self_eq_true]

theorem laws_samePieces.ev_l0 (m : List (S76)) (hm : m.length≤1048576) : ∀ (d i : Nat),i+d=m.length→Ev (fun k=>laws_samePieces.l0 k m m (m.length : Int) (i : Int)) true
 | 0,i,hi=>by
  refine Ev.step (fun k=>laws_samePieces.l0.eq_2 _ _ _ _ k) ?_
  exact ev_neg (by omega) (ev_now rfl)
 | d+1,i,hi=>by
  refine Ev.step (fun k=>laws_samePieces.l0.eq_2 _ _ _ _ k) ?_
  simp only [laws_sameBytes.ev,Option.bind_some]
  refine ev_pos (by omega) (ev_pos (by omega) (ev_pos (by omega) (ev_pos (by omega) (ev_pos (by trivial) (ev_pos (by trivial) ?_)))))
  rw [inc (by omega)]
  exact laws_samePieces.ev_l0 m hm d (i+1) (by omega)
theorem laws_samePieces.ev (m : List (S76)) (hm : m.length≤1048576) : Ev (fun k=>laws_samePieces.f k m m) true:=by
 unfold laws_samePieces.f
 exact ev_pos rfl (laws_samePieces.ev_l0 m hm m.length 0 (by omega))

theorem impl_identity.ev_l0 (n : Nat) (hn : n≤1048576) : ∀ (d i : Nat) (o : List (List Int)),i+d=n→o=(idM n).take i→Ev (fun k=>impl_identity.l0 k (n : Int) o (n : Int) (i : Int)) (idM n)
 | 0,i,o,hi,ho=>by
  refine Ev.step (fun k=>impl_identity.l0.eq_2 _ _ _ _ k) ?_
  refine ev_neg (by omega) (ev_now ?_)
  rw [ho,List.take_of_length_le (by simp [idM];omega)]
 | d+1,i,o,hi,ho=>by
  have hl : o.length=i:=by rw [ho,List.length_take];simp [idM];omega
  refine Ev.step (fun k=>impl_identity.l0.eq_2 _ _ _ _ k) ?_
  simp only [Option.bind_some,Int.toNat_natCast,List.length_replicate]
  refine ev_pos (by omega) (ev_pos (by omega) (ev_pos (by omega) (ev_pos (by omega) (ev_pos (by omega) (ev_pos (by omega) ?_)))))
  rw [inc (by omega)]
  refine impl_identity.ev_l0 n hn d (i+1) _ (by omega) ?_
  rw [List.take_succ_eq_append_getElem (by simp [idM];omega),← ho]
  simp [idM]
theorem impl_identity.ev (n : Nat) (hn : n≤1048576) : Ev (fun k=>impl_identity.f k (n : Int)) (idM n):=by
 unfold impl_identity.f
 exact impl_identity.ev_l0 n hn n 0 [] (by omega) rfl

theorem impl_added.ev_l0 (v w : List Int) (hv : Bytes v) (hw : Bytes w) (hl : v.length=w.length) (hs : v.length < 140737488355328) : ∀ (n i : Nat) (o : List Int),i+n=v.length→o=(addV v w).take i →
  Ev (fun k=>impl_added.l0 k w o v (v.length : Int) (i : Int)) (addV v w)
 | 0,i,o,hi,ho=>by
  refine Ev.step (fun k=>impl_added.l0.eq_2 _ _ _ _ _ k) ?_
  refine ev_neg (by omega) (ev_now ?_)
  subst ho
  rw [List.take_of_length_le (by rw [addV_length];omega)]
 | n+1,i,o,hi,ho=>by
  have hz:=addV_length v w
  have hlen : o.length=i:=by rw [ho,List.length_take,hz];omega
  refine Ev.step (fun k=>impl_added.l0.eq_2 _ _ _ _ _ k) ?_
  refine ev_pos (by omega) (ev_pos (by omega) (ev_pos (by omega) (ev_pos (by omega) (ev_pos (by omega) ?_))))
  rw [inc (by omega),xor_u8 (bytes_rd hv (by omega)) (bytes_rd hw (by omega)),rd_get (by omega),rd_get (by omega)]
  refine impl_added.ev_l0 v w hv hw hl hs n (i+1) _ (by omega) ?_
  rw [List.take_succ_eq_append_getElem (by omega),← ho]
  simp [addV]
theorem impl_added.ev {v w : List Int} (hv : Bytes v) (hw : Bytes w) (hl : v.length=w.length) (hs : v.length < 140737488355328) : Ev (fun k=>impl_added.f k v w) (addV v w):=by
 unfold impl_added.f
 exact impl_added.ev_l0 v w hv hw hl hs v.length 0 [] (by omega) rfl

theorem impl_Inverse.ev {a : Int} (ha : Byte a) : Ev (fun k=>impl_Inverse.f k a) (inv a):=by
 unfold impl_Inverse.f
 exact ev_bind (impl_power.ev ha 254 (by decide)) (ev_now (inv_pow a).symm)

theorem impl_inverseOf.ev {l : List (List Int)} (hs : sqN l=true) : impl_inverseOf.f l=some (invM l):=by
 unfold impl_inverseOf.f
 rw [if_pos hs]

theorem impl_solve.ev_l0 (m : List (List Int)) (v : List Int) (hv : Bytes v) (hn : v.length≤1048576) (hr : ∀ r ∈ m,Bytes r∧r.length=v.length) (hl : m.length≤1048576) : ∀ (d i : Nat) (o : List Int),i+d=m.length→o=(applyM m v).take i →
  Ev (fun k=>impl_solve.l0 k v o m (m.length : Int) (i : Int)) (applyM m v,true)
 | 0,i,o,hi,ho=>by
  refine Ev.step (fun k=>impl_solve.l0.eq_2 _ _ _ _ _ k) ?_
  refine ev_neg (by omega) (ev_now ?_)
  rw [ho,List.take_of_length_le (by rw [applyM_length];omega)]
 | d+1,i,o,hi,ho=>by
  have hlen : o.length=i:=by rw [ho,List.length_take,applyM_length];omega
  have hri:=hr _ (List.getElem_mem (show i < m.length by omega))
  refine Ev.step (fun k=>impl_solve.l0.eq_2 _ _ _ _ _ k) ?_
  refine ev_pos (by omega) (ev_pos (by omega) (ev_pos (by omega) ?_))
  rw [rdSS _ i (by omega)]
  refine ev_bind (impl_dot.ev hri.1 hv hri.2 (by omega)) (ev_pos (by omega) ?_)
  rw [inc (by omega)]
  refine impl_solve.ev_l0 m v hv hn hr hl d (i+1) _ (by omega) ?_
  rw [List.take_succ_eq_append_getElem (by rw [applyM_length];omega),← ho]
  simp [applyM]
theorem impl_solve.ev {l : List (List Int)} {v : List Int} (hs : sqN l=true) (hv : Bytes v) (hn : v.length=l.length) : Ev (fun k=>impl_solve.f k l v) (if (invM l).2=true then (applyM (invM l).1 v,true) else ([],false)):=by
 unfold impl_solve.f
 rw [impl_inverseOf.ev hs]
 simp only [Option.bind_some]
 have hl:=(sqN_iff.1 hs).2.1
 obtain ⟨h1,h2,h3⟩:=invM_ok hs
 by_cases z : (invM l).2=true
 ·rw [if_pos z]
  refine ev_pos z ?_
  exact impl_solve.ev_l0 (invM l).1 v hv (by omega) (fun r hr=>⟨(h2 r hr).1,by rw [(h2 r hr).2,hn]⟩) (by omega) (invM l).1.length 0 [] (by omega) rfl
 ·rw [if_neg z]
  exact ev_neg z (ev_now rfl)

theorem impl_Msr_isPiece.ev {n k : Int} (hg : GoodMsr n k) (x : Int) (l : List Int) : impl_Msr_isPiece.f n k x l=some (decide (0≤x∧x≤n - 1∧(l.length : Int)=k - 1)):=by
 unfold impl_Msr_isPiece.f
 have e : wrap64 (n - 1)=n - 1:=by unfold wrap64;omega
 simp only [impl_within.ev,impl_Msr_alpha.ev hg,Option.bind_some,decide_eq_true_eq,e]
 by_cases h : 0≤x∧x≤n - 1
 ·rw [if_pos h];by_cases h2 : (l.length : Int)=k - 1 <;> simp [h,h2]
 ·rw [if_neg h];simp;omega

def unkPre (a node t r : Nat) : List Int:=(List.range (a*(a+1))).map fun c=>sumOver (fun r=>if plc a r t=c then (msrRow a node).getD r 0 else 0) r
theorem unkPre_zero (a node t : Nat) : List.replicate (a*(a+1)) (0 : Int)=unkPre a node t 0:=by
 unfold unkPre
 simp only [sumOver]
 rw [List.map_const',List.length_range]
theorem unkPre_full {a node t : Nat} (ht : t < a) : unkPre a node t (2*a)=(unkM a node).getD t []:=by
 unfold unkM
 rw [tab_getD ht]
 rfl
theorem unkPre_byte (a node t r c : Nat) : Byte (sumOver (fun r=>if plc a r t=c then (msrRow a node).getD r 0 else 0) r):=sumOver_byte _ fun r _=>by
 split
 ·exact bytes_getD (msrRow_bytes a node) r
 ·exact .zero
theorem unkPre_next {a node t r : Nat} (h1 : 1≤a) (h3 : a≤3) (ht : t < a) (hr : r < 2*a) : (unkPre a node t r).set (plc a r t) (Go.bits .xor .u8 ((unkPre a node t r).getD (plc a r t) 0) ((msrRow a node).getD r 0))=unkPre a node t (r+1):=by
 have hp:=plc_lt h1 h3 hr ht
 have hb:=bytes_getD (msrRow_bytes a node) r
 unfold unkPre
 rw [row_getD hp,xor_u8 (unkPre_byte a node t r _) hb,row_set]
 apply List.map_congr_left
 intro c hc
 show _=gx (sumOver (fun r=>if plc a r t=c then (msrRow a node).getD r 0 else 0) r) (if plc a r t=c then (msrRow a node).getD r 0 else 0)
 by_cases h : c=plc a r t
 ·rw [if_pos h,if_pos h.symm,h]
 ·rw [if_neg h,if_neg (fun e=>h e.symm),gx_zero (unkPre_byte a node t r c)]
theorem impl_DecodeMsr.ev_l3 {n : Int} {a node t : Nat} (h1 : 1≤a) (h3 : a≤3) (ht : t < a) {M : List (List Int)} {g : List Int} (hM : M.length≤1000000) (hgl : g.length≤1000000) {x : Int} {P : List Pk} {lp ip : Int} {dat : List Int} {ld : Int} {R : List Int × Bool}
  (K : Ev (fun q=>impl_DecodeMsr.l2 q (placeM a) (M ++ [(unkM a node).getD t []]) (g ++ [x]) (msrRow a node) P lp ip dat ld ((t+1 : Nat) : Int) n ((a+1 : Nat) : Int)) R) : ∀ (d r : Nat),r+d=2*a →
  Ev (fun q=>impl_DecodeMsr.l3 q (placeM a) M g (msrRow a node) (t : Int) x (unkPre a node t r) P lp ip dat ld (t : Int) (msrRow a node) ((2*a : Nat) : Int) (r : Int) n ((a+1 : Nat) : Int)) R
 | 0,r,hr=>by
  refine Ev.step (fun k=>impl_DecodeMsr.l3.eq_2 _ _ _ _ _ _ _ _ _ _ _ _ _ _ _ _ _ _ k) ?_
  refine ev_neg (by omega) (ev_pos (by omega) (ev_pos (by omega) ?_))
  rw [inc (by omega),show r=2*a by omega,unkPre_full ht]
  exact K
 | d+1,r,hr=>by
  have hrl : r < 2*a:=by omega
  have hp:=plc_lt h1 h3 hrl ht
  have hl:=msrRow_length a node
  have hpl : (placeM a).length=2*a:=tab_length _ _ _
  have hpr : ((placeM a).getD r []).length=a:=tab_getD_length hrl
  have hpv : ((placeM a).getD r []).getD t 0=(plc a r t : Int):=tab_get2 hrl ht
  have hul : (unkPre a node t r).length=a*(a+1):=by simp [unkPre]
  refine Ev.step (fun k=>impl_DecodeMsr.l3.eq_2 _ _ _ _ _ _ _ _ _ _ _ _ _ _ _ _ _ _ k) ?_
  have e5 : rd_L1 (placeM a) (r : Int)=(placeM a).getD r []:=by unfold rd_L1;rw [Int.toNat_natCast]
  rw [e5]
  simp only [rd_nat,hpv]
  refine ev_pos (by omega) (ev_pos (by omega) (ev_pos (by omega) (ev_pos (by omega) (ev_pos (by omega) (ev_pos (by omega) (ev_pos (by omega) (ev_pos (by omega) ?_)))))))
  rw [Int.toNat_natCast,unkPre_next h1 h3 ht hrl,inc (by omega)]
  exact impl_DecodeMsr.ev_l3 h1 h3 ht hM hgl K d (r+1) (by omega)
theorem impl_DecodeMsr.ev_l2 {m a node : Nat} (hg : GoodMsr (m : Int) ((a+1 : Nat) : Int)) {M : List (List Int)} {g : List Int} (hM : M.length≤1000) (hgl : g.length≤1000) {P : List Pk} {lp : Int} {i : Nat} (hi : i < 1000) {dat : List Int} (hd : dat.length=a) {R : List Int × Bool}
  (K : Ev (fun q=>impl_DecodeMsr.l1 q (placeM a) (M ++ unkM a node) (g ++ dat) P lp ((i+1 : Nat) : Int) (m : Int) ((a+1 : Nat) : Int)) R) : ∀ (d t : Nat),t+d=a →
  Ev (fun q=>impl_DecodeMsr.l2 q (placeM a) (M ++ (unkM a node).take t) (g ++ dat.take t) (msrRow a node) P lp (i : Int) dat (a : Int) (t : Int) (m : Int) ((a+1 : Nat) : Int)) R
 | 0,t,ht=>by
  have hul:=unkM_length a node
  refine Ev.step (fun k=>impl_DecodeMsr.l2.eq_2 _ _ _ _ _ _ _ _ _ _ _ _ k) ?_
  refine ev_neg (by omega) ?_
  rw [inc (by omega),List.take_of_length_le (by omega),List.take_of_length_le (by omega)]
  exact K
 | d+1,t,ht=>by
  have h1 : 1≤a:=by omega
  have h3 : a≤3:=by omega
  have htl : t < a:=by omega
  have hul:=unkM_length a node
  have hub:=unk_b h3
  have hl:=msrRow_length a node
  have es : ((a+1 : Nat) : Int)*(((a+1 : Nat) : Int) - 1)=((a*(a+1) : Nat) : Int):=by
   have e : ((a+1 : Nat) : Int) - 1=(a : Int):=by omega
   rw [e,← Int.natCast_mul,Nat.mul_comm]
  refine Ev.step (fun k=>impl_DecodeMsr.l2.eq_2 _ _ _ _ _ _ _ _ _ _ _ _ k) ?_
  rw [impl_Msr_size.ev hg,es]
  simp only [Option.bind_some,Int.toNat_natCast]
  refine ev_pos (by omega) (ev_pos (by omega) (ev_pos (by omega) (ev_pos (by omega) (ev_pos (by omega) ?_))))
  rw [unkPre_zero a node t,hl]
  refine impl_DecodeMsr.ev_l3 h1 h3 htl (by rw [List.length_append,List.length_take];omega) (by rw [List.length_append,List.length_take];omega) ?_ (2*a) 0 (by omega)
  have e1 : M ++ (unkM a node).take t ++ [(unkM a node).getD t []]=M ++ (unkM a node).take (t+1):=by
   rw [List.append_assoc,List.take_succ_eq_append_getElem (by omega)]
   simp [List.getD,show t < (unkM a node).length by omega]
  have e2 : g ++ dat.take t ++ [rd dat (t : Int)]=g ++ dat.take (t+1):=by
   rw [List.append_assoc,List.take_succ_eq_append_getElem (by omega),rd_nat]
   simp [List.getD,show t < dat.length by omega]
  rw [e1,e2]
  exact impl_DecodeMsr.ev_l2 hg hM hgl hi hd K d (t+1) (by omega)
theorem impl_DecodeMsr.ev_l1 {m a : Nat} (hg : GoodMsr (m : Int) ((a+1 : Nat) : Int)) {P : List Pk} (hP : P.length=a+1) (hb : ∀ p ∈ P,Bytes p.f1) (hok : ∀ j (hj : j < P.length),(0≤(P[j]).f0∧(P[j]).f0≤(m : Int) - 1)∧(P[j]).f1.length=a) : ∀ (d i : Nat),i+d=P.length →
  Ev (fun q=>impl_DecodeMsr.l1 q (placeM a) (rowsOf a (P.take i)) (dataOf (P.take i)) P (P.length : Int) (i : Int) (m : Int) ((a+1 : Nat) : Int)) (decTail a P)
 | 0,i,hi=>by
  have h1 : 1≤a:=by omega
  have h3 : a≤3:=by omega
  have hlen : ∀ p ∈ P,p.f1.length=a:=fun p hp=>by
   obtain ⟨j,hj,rfl⟩:=List.getElem_of_mem hp
   exact (hok j hj).2
  have hs:=rowsOf_sq h1 h3 hP
  refine Ev.step (fun k=>impl_DecodeMsr.l1.eq_2 _ _ _ _ _ _ _ _ k) ?_
  refine ev_neg (by omega) ?_
  rw [List.take_of_length_le (by omega)]
  refine ev_bind (impl_solve.ev hs (dataOf_bytes hb) (by rw [dataOf_length P hlen,rowsOf_length])) (ev_now ?_)
  rfl
 | d+1,i,hi=>by
  have h1 : 1≤a:=by omega
  have h3 : a≤3:=by omega
  have hil : i < P.length:=by omega
  have hub:=unk_b h3
  obtain ⟨hx,hla⟩:=hok i hil
  obtain ⟨j,hj⟩ : ∃ j : Nat,(P[i]).f0=(j : Int):=⟨(P[i]).f0.toNat,by omega⟩
  have hrow:=impl_Msr_row.ev a j hg (by omega)
  rw [← hj] at hrow
  refine Ev.step (fun k=>impl_DecodeMsr.l1.eq_2 _ _ _ _ _ _ _ _ k) ?_
  rw [rdPk hil]
  refine ev_pos (by omega) (ev_pos (by omega) (ev_pos (by omega) (ev_bind hrow ?_)))
  have hlen : ∀ p ∈ P.take i,p.f1.length=a:=fun p hp=>by
   obtain ⟨j,hj,rfl⟩:=List.getElem_of_mem (List.mem_of_mem_take hp)
   exact (hok j hj).2
  have hpl : (P.take i).length≤3:=by rw [List.length_take];omega
  have hmul : (P.take i).length*a≤3*3:=Nat.mul_le_mul hpl h3
  have K:=impl_DecodeMsr.ev_l1 hg hP hb hok d (i+1) (by omega)
  rw [List.take_succ_eq_append_getElem hil,rowsOf_snoc,dataOf_snoc,hj,Int.toNat_natCast] at K
  have h2:=impl_DecodeMsr.ev_l2 hg (M:=rowsOf a (P.take i)) (g:=dataOf (P.take i)) (by rw [rowsOf_length];omega) (by rw [dataOf_length _ hlen];omega) (i:=i) (by omega) hla K a 0 (by omega)
  rw [List.take_zero,List.append_nil,List.take_zero,List.append_nil] at h2
  rw [hla]
  exact h2
theorem impl_DecodeMsr.ev_l0 {m a : Nat} (hg : GoodMsr (m : Int) ((a+1 : Nat) : Int)) {l : List Pk} (hl : a+1≤l.length) (hlm : l.length≤1048576) (hb : ∀ p ∈ l,Bytes p.f1) (hok : ∀ j (hj : j < l.length),(0≤(l[j]).f0∧(l[j]).f0≤(m : Int) - 1)∧(l[j]).f1.length=a) : ∀ (d i : Nat),1≤i→i+d=l.length →
  (∀ j (hj : j < l.length),j < i→riseAt (pcN l) m j=true) →
  Ev (fun q=>impl_DecodeMsr.l0 q l (i : Int) (m : Int) ((a+1 : Nat) : Int)) (if pcOk l m a=true then decTail a (l.take (a+1)) else ([],false))
 | 0,i,_,hi,hall=>by
  have htl : (l.take (a+1)).length=a+1:=by rw [List.length_take];omega
  refine Ev.step (fun k=>impl_DecodeMsr.l0.eq_2 _ _ _ _ k) ?_
  refine ev_neg (by omega) (ev_bind (impl_Msr_places.ev hg) (ev_pos (by omega) (ev_pos (by omega) ?_)))
  simp only [Option.bind_some,Int.toNat_natCast]
  rw [if_pos (pcOk_yes fun j hj=>⟨hall j hj (by omega),(hok j hj).2⟩)]
  exact impl_DecodeMsr.ev_l1 hg htl (fun p hp=>hb p (List.mem_of_mem_take hp)) (fun j hj=>by rw [List.getElem_take];exact hok j (by omega)) (l.take (a+1)).length 0 (by omega)
 | d+1,i,h1i,hi,hall=>by
  have hil : i < l.length:=by omega
  have hp : i - 1 < l.length:=by omega
  have hx:=pcN_rd hil
  have hxp:=pcN_rd hp
  refine Ev.step (fun k=>impl_DecodeMsr.l0.eq_2 _ _ _ _ k) ?_
  rw [show wrap64 ((i : Int) - 1)=((i - 1 : Nat) : Int) by unfold wrap64;omega,rdPk hil,rdPk hp]
  refine ev_pos (by omega) (ev_pos (by omega) (ev_pos (by omega) (ev_pos (by omega) ?_)))
  by_cases c3 : (l[i - 1]).f0 < (l[i]).f0
  ·refine ev_neg (by omega) ?_
   rw [inc (by omega)]
   refine impl_DecodeMsr.ev_l0 hg hl hlm hb hok d (i+1) (by omega) (by omega) (fun j hj h=>?_)
   by_cases e : j=i
   ·subst e
    exact riseAt_yes (by rw [hx];exact (hok _ hil).1) (.inr (by rw [hx,hxp];exact c3))
   ·exact hall j hj (by omega)
  ·refine ev_pos (by omega) (ev_now ?_)
   rw [pcOk_no hil (.inl (riseAt_no (fun y=>by rcases y.2 with w | w;omega;rw [hx,hxp] at w;exact c3 w))),if_neg (by simp)]
theorem dec_any {n k : Int} (hg : GoodMsr n k) {l : List Pk} (hl : l.length≤1048576) : dec_Piece.f l n k=some ((List.range l.length).any fun i=>!decide (0≤(l.getD i z76).f0∧(l.getD i z76).f0≤n - 1∧((l.getD i z76).f1.length : Int)=k - 1)):=by
 have hi : ∀ (x : Int) (l : List Int),impl_Msr_isPiece.f n k x l=some (decide (0≤x∧x≤n - 1∧(l.length : Int)=k - 1)):=fun x l=>by
  unfold impl_Msr_isPiece.f
  have e : wrap64 (n - 1)=n - 1:=by unfold wrap64;omega
  simp only [impl_within.ev,impl_Msr_alpha.ev hg,Option.bind_some,decide_eq_true_eq,e]
  by_cases h : 0≤x∧x≤n - 1
  ·rw [if_pos h];by_cases h2 : (l.length : Int)=k - 1 <;> simp [h,h2]
  ·rw [if_neg h];simp;omega
 unfold dec_Piece.f
 rw [if_pos ⟨hl,fun p _=>by rw [hi];rfl⟩]
 simp only [hi,Option.getD_some]
theorem impl_DecodeMsr.ev (n k : Int) (l : List Pk) (hlm : l.length≤1048576) (hb : ∀ p ∈ l,Bytes p.f1) : Ev (fun q=>impl_DecodeMsr.f q n k l) (decVal n k l):=by
 unfold impl_DecodeMsr.f decVal
 simp only [impl_GoodMsr.ev,Option.bind_some,decide_eq_true_eq]
 by_cases h : GoodMsr n k
 ·refine ev_pos h ?_
  by_cases h2 : (l.length : Int) < k
  ·refine ev_pos h2 ?_
   refine Ev.step (fun k=>impl_DecodeMsr.j0.eq_2 _ _ _ _ k) ?_
   rw [if_neg (fun y=>by have:=y.2.1;omega)]
   exact ev_pos rfl (ev_now rfl)
  ·refine ev_neg h2 ?_
   rw [dec_any h hlm]
   simp only [Option.bind_some]
   refine Ev.step (fun k=>impl_DecodeMsr.j0.eq_2 _ _ _ _ k) ?_
   obtain ⟨a,m,rfl,rfl,h3⟩:=GoodMsr_nat h
   simp only [Int.toNat_natCast,Nat.add_sub_cancel]
   by_cases hok : ∀ j (hj : j < l.length),(0≤(l[j]).f0∧(l[j]).f0≤(m : Int) - 1)∧(l[j]).f1.length=a
   ·refine ev_neg ?_ ?_
    ·rw [Bool.not_eq_true,List.any_eq_false]
     intro i hi
     have hi:=List.mem_range.1 hi
     have:=hok i hi
     rw [pc_getD hi,decide_eq_true (show 0≤(l[i]).f0∧(l[i]).f0≤(m : Int) - 1∧((l[i]).f1.length : Int)=((a+1 : Nat) : Int) - 1 by omega)]
     simp
    ·have h0 : 0 < l.length:=by omega
     refine ev_eq (impl_DecodeMsr.ev_l0 h (by omega) hlm hb hok (l.length - 1) 1 (by omega) (by omega) (fun j hj hj1=>?_)) ?_
     ·have : j=0:=by omega
      subst this
      exact riseAt_yes (by rw [pcN_rd h0];exact (hok 0 h0).1) (.inl rfl)
     ·by_cases h5 : pcOk l m a=true
      ·rw [if_pos h5,if_pos ⟨h,by omega,h5⟩]
      ·rw [if_neg h5,if_neg (fun y=>h5 y.2.2)]
   ·have hex : ∃ j,∃ hj : j < l.length,¬ ((0≤(l[j]).f0∧(l[j]).f0≤(m : Int) - 1)∧(l[j]).f1.length=a):=by
     apply Classical.byContradiction
     intro hn
     exact hok fun j hj=>Classical.byContradiction fun hc=>hn ⟨j,hj,hc⟩
    obtain ⟨j,hj,hbad⟩:=hex
    refine ev_pos ?_ (ev_now ?_)
    ·rw [List.any_eq_true]
     refine ⟨j,List.mem_range.2 hj,?_⟩
     rw [pc_getD hj,decide_eq_false (fun y=>hbad ⟨⟨y.1,y.2.1⟩,by have:=y.2.2;omega⟩)]
     rfl
    ·rw [if_neg]
     intro y
     have hp : pcOk l m a=false:=by
      by_cases c2 : (l[j]).f1.length=a
      ·exact pcOk_no hj (.inl (riseAt_no (fun z=>hbad ⟨by have:=z.1;rw [pcN_rd hj] at this;exact this,c2⟩)))
      ·exact pcOk_no hj (.inr c2)
     rw [hp] at y
     exact absurd y.2.2 (by simp)
 ·rw [if_neg (fun y=>h y.1)]
  refine ev_neg h ?_
  refine Ev.step (fun k=>impl_DecodeMsr.j0.eq_2 _ _ _ _ k) ?_
  exact ev_pos rfl (ev_now rfl)

theorem impl_Msr_isNode.ev (n k j : Int) : impl_Msr_isNode.f n k j=some (decide (GoodMsr n k∧0≤j∧j≤n - 1)):=by
 unfold impl_Msr_isNode.f
 simp only [impl_GoodMsr.ev,impl_within.ev,Option.bind_some,decide_eq_true_eq]
 by_cases h : GoodMsr n k
 ·have e : wrap64 (n - 1)=n - 1:=by unfold wrap64;omega
  rw [if_pos h,e]
  simp [h]
 ·rw [if_neg h]
  simp [h]

theorem impl_MsrRow.ev (n k j : Int) : Ev (fun q=>impl_MsrRow.f q n k j) (msrRowVal n k j):=by
 unfold impl_MsrRow.f msrRowVal
 simp only [impl_Msr_isNode.ev,Option.bind_some,decide_eq_true_eq]
 by_cases h : GoodMsr n k∧0≤j∧j≤n - 1
 ·refine ev_eq ?_ (if_pos h).symm
  refine ev_pos h ?_
  obtain ⟨hg,h2⟩:=h
  obtain ⟨a,m,rfl,rfl,h3⟩:=(GoodMsr_nat hg)
  obtain ⟨i,rfl⟩:=Int.eq_ofNat_of_zero_le h2.1
  refine ev_bind (impl_Msr_row.ev a i hg (by omega)) (ev_now ?_)
  have ea : (((a+1 : Nat) : Int) - 1).toNat=a:=by omega
  rw [ea,Int.toNat_natCast]
 ·exact ev_eq (ev_neg h (ev_now rfl)) (if_neg h).symm

theorem spec_l1Cur_chosen.some_l0 {s : List Int} (hs : Bytes s) (n : Nat) (hn : n≤200) (many : Int) (hm : many≤1000 ∧ -1000≤many) : ∀ (d i : Nat) (o : List Int) (a z : Int),i+d=n→upTo i o→o.length≤i→0≤a→a+2*d≤4611686018427360000 →
  ∃ t b z',Ev (fun k=>spec_l1Cur_chosen.l0 k (n : Int) many o (i : Int) s a z) (t,b,z')∧upTo n t∧a≤b∧b≤a+2*d
 | 0,i,o,a,z,hi,ho,hl,h0,h1=>by
  refine ⟨o,a,z,?_,upTo_more ho (by omega),by omega,by omega⟩
  refine Ev.step (fun k=>spec_l1Cur_chosen.l0.eq_2 _ _ _ _ _ _ _ k) ?_
  refine ev_neg (by omega) ?_
  refine Ev.step (fun k=>spec_l1Cur_chosen.j1.eq_2 _ _ _ _ _ _ _ _ k) ?_
  exact ev_neg (by decide) (ev_now rfl)
 | d+1,i,o,a,z,hi,ho,hl,h0,h1=>by
  by_cases c : (o.length : Int) < many
  ·by_cases c2 : wrap64 ((n : Int) - (i : Int))≤wrap64 (many - (o.length : Int))
   ·obtain ⟨t,b,z',e,h2,h3,h4⟩:=spec_l1Cur_chosen.some_l0 hs n hn many hm d (i+1) (o ++ [(i : Int)]) a z (by omega) (upTo_snoc ho) (by rw [List.length_append];simp;omega) h0 (by omega)
    refine ⟨t,b,z',?_,h2,h3,by omega⟩
    refine Ev.step (fun k=>spec_l1Cur_chosen.l0.eq_2 _ _ _ _ _ _ _ k) ?_
    refine ev_pos (by omega) ?_
    rw [decide_eq_true c]
    refine Ev.step (fun k=>spec_l1Cur_chosen.j1.eq_2 _ _ _ _ _ _ _ _ k) ?_
    refine ev_pos rfl (ev_pos c2 (ev_pos (by omega) ?_))
    rw [inc (by omega)]
    exact e
   ·obtain ⟨x,b,z1,e1,hb0,hb1⟩:=spec_l1Cur_one.some_ hs (a:=a) (z:=z) (n:=2) h0 (by omega) (by decide)
    cases x with
    | true =>
     obtain ⟨t,b2,z',e,h2,h3,h4⟩:=spec_l1Cur_chosen.some_l0 hs n hn many hm d (i+1) (o ++ [(i : Int)]) b z1 (by omega) (upTo_snoc ho) (by rw [List.length_append];simp;omega) (by omega) (by omega)
     refine ⟨t,b2,z',?_,h2,by omega,by omega⟩
     refine Ev.step (fun k=>spec_l1Cur_chosen.l0.eq_2 _ _ _ _ _ _ _ k) ?_
     refine ev_pos (by omega) ?_
     rw [decide_eq_true c]
     refine Ev.step (fun k=>spec_l1Cur_chosen.j1.eq_2 _ _ _ _ _ _ _ _ k) ?_
     refine ev_pos rfl (ev_neg c2 ?_)
     rw [e1]
     simp only [Option.bind_some]
     refine ev_pos trivial (ev_pos (by omega) ?_)
     rw [inc (by omega)]
     exact e
    | false =>
     obtain ⟨t,b2,z',e,h2,h3,h4⟩:=spec_l1Cur_chosen.some_l0 hs n hn many hm d (i+1) o b z1 (by omega) (upTo_more ho (by omega)) (by omega) (by omega) (by omega)
     refine ⟨t,b2,z',?_,h2,by omega,by omega⟩
     refine Ev.step (fun k=>spec_l1Cur_chosen.l0.eq_2 _ _ _ _ _ _ _ k) ?_
     refine ev_pos (by omega) ?_
     rw [decide_eq_true c]
     refine Ev.step (fun k=>spec_l1Cur_chosen.j1.eq_2 _ _ _ _ _ _ _ _ k) ?_
     refine ev_pos rfl (ev_neg c2 ?_)
     rw [e1]
     simp only [Option.bind_some]
     refine ev_neg (by decide) ?_
     rw [inc (by omega)]
     exact e
  ·refine ⟨o,a,z,?_,upTo_more ho (by omega),by omega,by omega⟩
   refine Ev.step (fun k=>spec_l1Cur_chosen.l0.eq_2 _ _ _ _ _ _ _ k) ?_
   refine ev_pos (by omega) ?_
   rw [decide_eq_false c]
   refine Ev.step (fun k=>spec_l1Cur_chosen.j1.eq_2 _ _ _ _ _ _ _ _ k) ?_
   exact ev_neg (by decide) (ev_now rfl)
theorem spec_l1Cur_chosen.some_ {s : List Int} (hs : Bytes s) (n : Nat) (hn : n≤200) (many : Int) (hm : many≤1000 ∧ -1000≤many) {a z : Int} (h0 : 0≤a) (h1 : a≤4611686018427350000) : ∃ t b z',Ev (fun k=>spec_l1Cur_chosen.f k s a z (n : Int) many) (t,b,z')∧upTo n t∧a≤b∧b≤a+400:=by
 obtain ⟨t,b,z',e,h2,h3,h4⟩:=spec_l1Cur_chosen.some_l0 hs n hn many hm n 0 [] a z (by omega) (upTo_nil 0) (by simp) h0 (by omega)
 exact ⟨t,b,z',e,h2,h3,by omega⟩

def pcsFine (L : List (S76)) (m : Nat) : Prop:=L.length≤m∧∀ p ∈ L,Bytes p.f1
theorem rdPz {l : List (S76)} {i : Nat} (h : i < l.length) : rd_T76 l (i : Int)=l[i]:=by unfold rd_T76;simp [List.getD,h]
theorem spec_l1Cur_msrPieces.some_j1 {s : List Int} (hs : Bytes s) {a z : Int} (h0 : 0≤a) (h1 : a≤4611686018427360000) (n k : Int) (L : List (S76)) (hL : pcsFine L 200) (x : Bool) (hx : x=true→0 < L.length) :
  ∃ T b z',Ev (fun q=>spec_l1Cur_msrPieces.j1 q L x s a z n k) (n,k,T,b,z')∧pcsFine T 200:=by
 by_cases c : x=true
 ·have hl:=hx c
  obtain ⟨t,b,z1,e,ht0,ht1,q0,q1⟩:=spec_l1Cur_pick.some_ hs (a:=a) (z:=z) (n:=4) h0 (by omega) (by decide)
  obtain ⟨i,rfl⟩:=Int.eq_ofNat_of_zero_le ht0
  obtain ⟨D,b2,z2,e2,hD,_,_,_⟩:=spec_l1Cur_vector.some_n hs (a:=b) (z:=z1) i (by omega) (by omega) (by omega)
  refine ⟨L.set (0 : Int).toNat (⟨(rd_T76 L 0).f0,D⟩ : S76),b2,z2,Ev.step (fun q=>spec_l1Cur_msrPieces.j1.eq_2 _ _ _ _ _ _ _ q) (ev_pos c ?_),by rw [List.length_set];exact hL.1,fun p hp=>?_⟩
  ·rw [e]
   simp only [Option.bind_some]
   exact ev_bind e2 (ev_pos (by omega) (ev_now rfl))
  ·rcases List.mem_or_eq_of_mem_set hp with h2 | h2
   ·exact hL.2 p h2
   ·subst h2
    exact hD
 ·exact ⟨L,a,z,Ev.step (fun q=>spec_l1Cur_msrPieces.j1.eq_2 _ _ _ _ _ _ _ q) (ev_neg c (ev_now rfl)),hL⟩
theorem spec_l1Cur_msrPieces.some_l0 {s : List Int} (hs : Bytes s) (n k : Int) (P : List (S76)) (hP : ∀ p ∈ P,Bytes p.f1) (c : List Int) (hc : upTo P.length c) (hcl : c.length≤100) : ∀ (d i : Nat) (L : List (S76)) (a z : Int),i+d=c.length→pcsFine L i→0≤a→a≤4611686018427350000 →
  ∃ T b z',Ev (fun q=>spec_l1Cur_msrPieces.l0 q P L c (c.length : Int) (i : Int) s a z n k) (n,k,T,b,z')∧pcsFine T 200
 | 0,i,L,a,z,hi,hL,h0,h1=>by
  have hL2 : pcsFine L 200:=⟨by have:=hL.1;omega,hL.2⟩
  by_cases cl : (L.length : Int) > 0
  ·obtain ⟨u,b,z1,e,r0,r1⟩:=spec_l1Cur_one.some_ hs (a:=a) (z:=z) (n:=12) h0 (by omega) (by decide)
   obtain ⟨T,b2,z2,e2,hT⟩:=spec_l1Cur_msrPieces.some_j1 hs (a:=b) (z:=z1) (by omega) (by omega) n k L hL2 u (fun _=>by omega)
   refine ⟨T,b2,z2,Ev.step (fun q=>spec_l1Cur_msrPieces.l0.eq_2 _ _ _ _ _ _ _ _ _ _ q) (ev_neg (by omega) (ev_pos cl ?_)),hT⟩
   rw [e]
   exact e2
  ·obtain ⟨T,b2,z2,e2,hT⟩:=spec_l1Cur_msrPieces.some_j1 hs (a:=a) (z:=z) h0 (by omega) n k L hL2 false (fun q=>by cases q)
   exact ⟨T,b2,z2,Ev.step (fun q=>spec_l1Cur_msrPieces.l0.eq_2 _ _ _ _ _ _ _ _ _ _ q) (ev_neg (by omega) (ev_neg cl e2)),hT⟩
 | d+1,i,L,a,z,hi,hL,h0,h1=>by
  have hil : i < c.length:=by omega
  have hr:=upTo_rd hc hil
  obtain ⟨y,hy⟩:=Int.eq_ofNat_of_zero_le hr.1
  have hyl : y < P.length:=by omega
  obtain ⟨T,b,z',e,hT⟩:=spec_l1Cur_msrPieces.some_l0 hs n k P hP c hc hcl d (i+1) (L ++ [(⟨(P[y]).f0,(P[y]).f1⟩ : S76)]) a z (by omega) ⟨by rw [List.length_append];have:=hL.1;simp;omega,fun p hp=>by
   rcases List.mem_append.1 hp with h2 | h2
   ·exact hL.2 p h2
   ·simp at h2
    rw [h2]
    exact hP _ (List.getElem_mem hyl)⟩ h0 h1
  refine ⟨T,b,z',Ev.step (fun q=>spec_l1Cur_msrPieces.l0.eq_2 _ _ _ _ _ _ _ _ _ _ q) (ev_pos (by omega) (ev_pos (by omega) (ev_pos (by omega) (ev_pos (by omega) (ev_pos (by omega) (ev_pos (by have:=hL.1;omega) ?_)))))),hT⟩
  rw [hy,rdPz hyl,inc (by omega)]
  exact e
theorem spec_l1Cur_msrPieces.some_ {s : List Int} (hs : Bytes s) : ∃ n k L b z',Ev (fun q=>spec_l1Cur_msrPieces.f q s 0 0) (n,k,L,b,z')∧pcsFine L 200:=by
 obtain ⟨n,k,b,z1,e,hn,hk,hb0,hb1⟩:=spec_l1Cur_msr.some_ hs (a:=0) (z:=0) (by decide) (by decide)
 have main : ∃ L b' z',Ev (fun q=>spec_l1Cur_msrPieces.f q s 0 0) (n,k,L,b',z')∧pcsFine L 200:=by
  unfold spec_l1Cur_msrPieces.f
  rw [e]
  simp only [Option.bind_some]
  rw [spec_GoodMsr.ev]
  simp only [Option.bind_some]
  by_cases c : GoodMsr n k
  ·obtain ⟨w1,w2,w3⟩:=small_kk hk.1 hk.2
   obtain ⟨i,hi⟩:=Int.eq_ofNat_of_zero_le w2
   obtain ⟨D,b3,z3,e3,hD,hl,q0,q1⟩:=spec_l1Cur_vector.some_n hs (a:=b) (z:=z1) i (by omega) (by omega) (by omega)
   obtain ⟨a,m,rfl,rfl,g1,g2,g3,g4⟩:=GoodMsr_nat c
   have hDl : D.length=a*(a+1):=by
    have:=@enc_size a
    omega
   have he:=spec_l5Encode.ev g1 g2 g4 hD hDl
   have hel:=encL_length m a D
   obtain ⟨p,b4,z4,e4,hp0,hp1,r0,r1⟩:=spec_l1Cur_pick.some_ hs (a:=b3) (z:=z3) (n:=3) (by omega) (by omega) (by decide)
   obtain ⟨u,b5,z5,e5,hu0,hu1,s0,s1⟩:=spec_l1Cur_pick.some_ hs (a:=b4) (z:=z4) (n:=2) (by omega) (by omega) (by decide)
   obtain ⟨v,b6,z6,e6,hv0,hv1,t0,t1⟩:=spec_l1Cur_pick.some_ hs (a:=b5) (z:=z5) (n:=2) (by omega) (by omega) (by decide)
   have huv : 0≤u*v∧u*v≤1:=by
    rcases (show u=0∨u=1 by omega) with rfl | rfl <;> omega
   have w4 : wrap64 (((a+1 : Nat) : Int)+p)=((a+1 : Nat) : Int)+p:=wrap_id (by omega) (by omega)
   have w5 : wrap64 (u*v)=u*v:=wrap_id (by omega) (by omega)
   have w6 : wrap64 (((a+1 : Nat) : Int)+p - u*v)=((a+1 : Nat) : Int)+p - u*v:=wrap_id (by omega) (by omega)
   obtain ⟨ch,b7,z7,e7,hch,v0,v1⟩:=spec_l1Cur_chosen.some_ hs (encL m a D).length (by omega) (((a+1 : Nat) : Int)+p - u*v) (by omega) (a:=b6) (z:=z6) (by omega) (by omega)
   have hchl:=upTo_len hch
   obtain ⟨T,b8,z8,e8,hT⟩:=spec_l1Cur_msrPieces.some_l0 hs ((m : Nat) : Int) ((a+1 : Nat) : Int) (encL m a D) (fun x hx=>by
    unfold encL at hx
    obtain ⟨j,_,rfl⟩:=List.mem_map.1 hx
    exact applyM_bytes (trM_bytes (msgM_bytes a hD)) _) ch hch (by omega) ch.length 0 [] b7 z7 (by omega) ⟨by simp,fun x hx=>by cases hx⟩ (by omega) (by omega)
   refine ⟨T,b8,z8,ev_pos (decide_eq_true c) ?_,hT⟩
   rw [w1,hi]
   refine ev_bind e3 (ev_bind he ?_)
   dsimp only
   rw [e4]
   simp only [Option.bind_some]
   rw [e5]
   simp only [Option.bind_some]
   rw [e6]
   simp only [Option.bind_some]
   rw [w4,w5,w6]
   exact ev_bind e7 e8
  ·exact ⟨[],b,z1,ev_neg (by rw [decide_eq_true_eq];exact c) (ev_now rfl),by simp,fun x hx=>by cases hx⟩
 obtain ⟨L,b',z',h1,h2⟩:=main
 exact ⟨n,k,L,b',z',h1,h2⟩

theorem spec_DrawDecodeMsr.some_ {s : List Int} (hs : Bytes s) : ∃ n k L,Ev (fun q=>spec_DrawDecodeMsr.f q s) (n,k,L)∧pcsFine L 200:=by
 obtain ⟨n,k,L,b,z,e,hL⟩:=spec_l1Cur_msrPieces.some_ hs
 refine ⟨n,k,L,?_,hL⟩
 unfold spec_DrawDecodeMsr.f spec_DrawDecodeMsr.g
 exact ev_bind (ev_bind e (ev_now rfl)) (ev_now rfl)

theorem spec_l1Add.ev_l0 (v w : List Int) (hv : Bytes v) (hw : Bytes w) (hl : v.length=w.length) (hs : v.length < 140737488355328) : ∀ (n i : Nat) (o : List Int),i+n=v.length→o=(addV v w).take i →
  Ev (fun k=>spec_l1Add.l0 k v w o (v.length : Int) (i : Int)) (addV v w)
 | 0,i,o,hi,ho=>by
  refine Ev.step (fun k=>spec_l1Add.l0.eq_2 _ _ _ _ _ k) ?_
  refine ev_neg (by omega) (ev_now ?_)
  subst ho
  rw [List.take_of_length_le (by rw [addV_length];omega)]
 | n+1,i,o,hi,ho=>by
  have hz:=addV_length v w
  have hlen : o.length=i:=by rw [ho,List.length_take,hz];omega
  refine Ev.step (fun k=>spec_l1Add.l0.eq_2 _ _ _ _ _ k) ?_
  refine ev_pos (by omega) (ev_pos (by omega) (ev_pos (by omega) (ev_pos (by omega) (ev_pos (by omega) ?_))))
  rw [inc (by omega),xor_u8 (bytes_rd hv (by omega)) (bytes_rd hw (by omega)),rd_get (by omega),rd_get (by omega)]
  refine spec_l1Add.ev_l0 v w hv hw hl hs n (i+1) _ (by omega) ?_
  rw [List.take_succ_eq_append_getElem (by omega),← ho]
  simp [addV]
theorem spec_l1Add.ev {v w : List Int} (hv : Bytes v) (hw : Bytes w) (hl : v.length=w.length) (hs : v.length < 140737488355328) : Ev (fun k=>spec_l1Add.f k v w) (addV v w):=by
 unfold spec_l1Add.f
 exact spec_l1Add.ev_l0 v w hv hw hl hs v.length 0 [] (by omega) rfl

theorem spec_l1Inverse.ev {a : Int} (ha : Byte a) : Ev (fun k=>spec_l1Inverse.f k a) (inv a):=by
 unfold spec_l1Inverse.f
 by_cases h : a=0
 ·subst h
  exact ev_pos rfl (ev_now inv_zero.symm)
 ·exact ev_neg h (ev_bind (spec_l1Power.ev ha 254 (by decide)) (ev_now (inv_pow a).symm))

theorem spec_l2Own.ev_l0 (l : List (List Int)) (hl : l.length≤1048576) (hr : ∀ r ∈ l,r.length≤1048576) : ∀ (d i : Nat) (o : List (List Int)),i+d=l.length→o=l.take i→Ev (fun k=>spec_l2Own.l0 k l (l.length : Int) (i : Int) o) l
 | 0,i,o,hi,ho=>by
  refine Ev.step (fun k=>spec_l2Own.l0.eq_2 _ _ _ _ k) ?_
  refine ev_neg (by omega) (ev_now ?_)
  rw [ho,List.take_of_length_le (by omega)]
 | d+1,i,o,hi,ho=>by
  have hol : o.length=i:=by rw [ho,List.length_take];omega
  have hrl : (l.getD i []).length≤1048576:=by
   rw [List.getD_eq_getElem?_getD,List.getElem?_eq_getElem (show i < l.length by omega)]
   exact hr _ (List.getElem_mem _)
  refine Ev.step (fun k=>spec_l2Own.l0.eq_2 _ _ _ _ k) ?_
  simp only [Option.bind_some]
  refine ev_pos (by omega) (ev_pos (by omega) (ev_pos (by omega) (ev_pos (show ([] : List Int).length+(l.getD i []).length < 140737488355328 by simp only [List.length_nil];omega) (ev_pos (by omega) ?_))))
  rw [inc (by omega)]
  refine spec_l2Own.ev_l0 l hl hr d (i+1) _ (by omega) ?_
  rw [List.take_succ_eq_append_getElem (show i < l.length by omega),← ho,show l[i]'(by omega)=l.getD i [] by rw [List.getD_eq_getElem?_getD,List.getElem?_eq_getElem (show i < l.length by omega)];rfl]
  rfl
theorem spec_l2Own.ev (l : List (List Int)) (hl : l.length≤1048576) (hr : ∀ r ∈ l,r.length≤1048576) : Ev (fun k=>spec_l2Own.f k l) l:=by
 unfold spec_l2Own.f
 exact spec_l2Own.ev_l0 l hl hr l.length 0 [] (by omega) rfl

def idPart (n i : Nat) : List (List Int):=(List.range n).map fun j=>if j < i then (List.replicate n 0).set j 1 else List.replicate n 0
theorem idPart_length (n i : Nat) : (idPart n i).length=n:=by simp [idPart]
theorem idPart_zero (n : Nat) : idPart n 0=blankM n n:=by
 apply List.ext_getElem
 ·simp [idPart,blankM]
 ·intro j h1 h2;simp [idPart,blankM]
theorem idPart_all (n : Nat) : idPart n n=idM n:=by
 apply List.ext_getElem
 ·simp [idPart,idM]
 ·intro j h1 h2
  have : j < n:=by simpa [idPart] using h1
  simp [idPart,idM,this]
theorem idPart_succ (n i : Nat) (hi : i < n) : (idPart n i).set i ((List.replicate n 0).set i 1)=idPart n (i+1):=by
 apply List.ext_getElem
 ·simp [idPart]
 ·intro j h1 h2
  rw [List.getElem_set]
  by_cases e : i=j
  ·subst e
   simp [idPart]
  ·rw [if_neg e]
   simp only [idPart,List.getElem_map,List.getElem_range]
   by_cases h : j < i
   ·rw [if_pos h,if_pos (by omega)]
   ·rw [if_neg h,if_neg (by omega)]
theorem spec_l2Identity.ev_l0 (n : Nat) (hn : n≤1048576) : ∀ (d i : Nat),i+d=n→Ev (fun k=>spec_l2Identity.l0 k (n : Int) (i : Int) (idPart n i)) (idM n)
 | 0,i,hi=>by
  obtain rfl : i=n:=by omega
  refine Ev.step (fun k=>spec_l2Identity.l0.eq_2 _ _ _ k) ?_
  exact ev_neg (by omega) (ev_now (idPart_all i))
 | d+1,i,hi=>by
  have hl:=idPart_length n i
  have hg : rd_L3 (idPart n i) (i : Int)=List.replicate n 0:=by
   rw [rdSS _ i (by omega)]
   simp [idPart]
  have ih:=spec_l2Identity.ev_l0 n hn d (i+1) (by omega)
  refine Ev.step (fun k=>spec_l2Identity.l0.eq_2 _ _ _ k) ?_
  rw [hg]
  refine ev_pos (by omega) (ev_pos (by omega) (ev_pos (by omega) (ev_pos (by simp;omega) ?_)))
  rw [inc (by omega),Int.toNat_natCast,idPart_succ n i (by omega)]
  exact ih
theorem spec_l2Identity.ev (n : Nat) (hn : n≤1048576) : Ev (fun k=>spec_l2Identity.f k (n : Int)) (idM n):=by
 unfold spec_l2Identity.f
 refine ev_bind (spec_l2Blank.ev n n hn hn) ?_
 have e : ((blankM n n).length : Int)=(n : Int):=by simp [blankM]
 rw [e,← idPart_zero]
 exact spec_l2Identity.ev_l0 n hn n 0 (by omega)

theorem laws_FnMsr.ev_tail (l : List Int) (hb : Bytes l) : Ev (fun k=>(spec_DrawDecodeMsr.f k l).bind fun x=>((impl_DecodeMsr.f k x.1 x.2.1 x.2.2).bind fun y=>((spec_DecodeMsr.f k x.1 x.2.1 x.2.2).bind fun z=>(if (y.2 == z.2)=true then ((laws_sameBytes.f y.1 z.1).bind fun t=>(some t)) else (some false))))) true:=by
 obtain ⟨n,k,L,e,hL⟩:=spec_DrawDecodeMsr.some_ hb
 have h2:=hL.1
 refine ev_bind e (ev_bind (impl_DecodeMsr.ev n k L (by omega) hL.2) (ev_bind (spec_DecodeMsr.ev n k L (by omega) hL.2) ?_))
 refine ev_pos (by simp) ?_
 rw [laws_sameBytes.ev]
 exact ev_now rfl
section
open Go.Proofs.Yteflgifmdojahaa.Fld Go.Proofs.Yteflgifmdojahaa.Lin
theorem laws_FnMsr.ev_l3 {a : Nat} (h1 : 1≤a) (h3 : a≤3) {D : List Int} (hD : Bytes D) (l : List Int) (al : Int) (x j : Nat) (hj : j < a) (P : List (S76)) (pl : Int) (n k : Int)
  (K : Ev (fun q=>laws_FnMsr.l2 q l al (msrRow a x) P pl (x : Int) (pieceAt a D x).f1 ((pieceAt a D x).f1.length : Int) ((j+1 : Nat) : Int) n k (msgM a D)) true) : ∀ (d i : Nat) (o : Int),i+d=2*a→Byte o→toF o=sm (fun r=>toF ((msrRow a x).getD r 0)*en (msgM a D) r j) i →
  Ev (fun q=>laws_FnMsr.l3 q l al (msrRow a x) (j : Int) (rd (pieceAt a D x).f1 (j : Int)) o P pl (x : Int) (pieceAt a D x).f1 ((pieceAt a D x).f1.length : Int) (j : Int) ((msrRow a x).length : Int) (i : Int) n k (msgM a D)) true
 | 0,i,o,hi,ho,he=>by
  have hrl:=msrRow_length a x
  have hpl : (pieceAt a D x).f1.length=a:=pieceAt_length h1 D x
  obtain ⟨t1,t2⟩:=trM_okI h1 hD
  refine Ev.step (fun q=>laws_FnMsr.l3.eq_2 _ _ _ _ _ _ _ _ _ _ _ _ _ _ _ _ _ q) (ev_neg (by omega) ?_)
  refine ev_pos ?_ ?_
  ·have hpb : Bytes (pieceAt a D x).f1:=applyM_bytes (trM_bytes (msgM_bytes a hD)) _
   rw [rd_nat]
   refine toF_inj ho (bytes_getD hpb j) ?_
   show _=toF ((applyM (trM (msgM a D)) (msrRow a x)).getD j 0)
   rw [he,show i=2*a by omega,toF_apply t2 (msrRow_bytes a x) hrl (by omega)]
   exact sm_congr _ fun r hr=>by rw [trM_en h1 D hj hr,F8.mul_comm]
  ·rw [inc (by omega)]
   exact K
 | d+1,i,o,hi,ho,he=>by
  have hrl:=msrRow_length a x
  have hml : (msgM a D).length=2*a:=tab_length _ _ _
  have hmr : ((msgM a D).getD i []).length=a:=tab_getD_length (by omega)
  have e1 : rd (msrRow a x) (i : Int)=(msrRow a x).getD i 0:=rd_nat _ _
  have e2 : rd ((msgM a D).getD i []) (j : Int)=((msgM a D).getD i []).getD j 0:=rd_nat _ _
  have b1 : Byte ((msrRow a x).getD i 0):=bytes_getD (msrRow_bytes a x) i
  have b2 : Byte (((msgM a D).getD i []).getD j 0):=en_byte (msgM_okI a hD) (by omega) j
  refine Ev.step (fun q=>laws_FnMsr.l3.eq_2 _ _ _ _ _ _ _ _ _ _ _ _ _ _ _ _ _ q) ?_
  rw [rdSS0,Int.toNat_natCast]
  refine ev_pos (by omega) (ev_pos (by omega) (ev_pos (by omega) (ev_pos (by omega) (ev_pos (by omega) (ev_pos (by omega) ?_)))))
  rw [e1,e2]
  refine ev_bind (impl_Times.ev b1 b2) ?_
  rw [xor_u8 ho (b1.mul _),inc (by omega)]
  refine laws_FnMsr.ev_l3 h1 h3 hD l al x j hj P pl n k K d (i+1) _ (by omega) (ho.gx (b1.mul _)) ?_
  rw [toF_gx ho (b1.mul _),toF_mul b1 b2,he]
  rfl
theorem laws_FnMsr.ev_l2 {a : Nat} (h1 : 1≤a) (h3 : a≤3) {D : List Int} (hD : Bytes D) (l : List Int) (al : Int) (x : Nat) (hx : x < 1000) (P : List (S76)) (pl : Int) (n k : Int)
  (K : Ev (fun q=>laws_FnMsr.l1 q l al P pl ((x+1 : Nat) : Int) n k (msgM a D)) true) : ∀ (d j : Nat),j+d=a →
  Ev (fun q=>laws_FnMsr.l2 q l al (msrRow a x) P pl (x : Int) (pieceAt a D x).f1 ((pieceAt a D x).f1.length : Int) (j : Int) n k (msgM a D)) true
 | 0,j,hj=>by
  have hpl : (pieceAt a D x).f1.length=a:=pieceAt_length h1 D x
  refine Ev.step (fun q=>laws_FnMsr.l2.eq_2 _ _ _ _ _ _ _ _ _ _ _ _ q) (ev_neg (by omega) ?_)
  rw [inc (by omega)]
  exact K
 | d+1,j,hj=>by
  have hpl : (pieceAt a D x).f1.length=a:=pieceAt_length h1 D x
  refine Ev.step (fun q=>laws_FnMsr.l2.eq_2 _ _ _ _ _ _ _ _ _ _ _ _ q) (ev_pos (by omega) (ev_pos (by omega) (ev_pos (by omega) ?_)))
  exact laws_FnMsr.ev_l3 h1 h3 hD l al x j (by omega) P pl n k (laws_FnMsr.ev_l2 h1 h3 hD l al x hx P pl n k K d (j+1) (by omega)) (2*a) 0 0 (by omega) .zero toF_zero
end
theorem encL_at {m a : Nat} {D : List Int} {i : Nat} (h : i < (encL m a D).length) : (encL m a D)[i]=pieceAt a D i:=by
 simp [encL]
theorem laws_FnMsr.ev_l1 {a m : Nat} (h1 : 1≤a) (h3 : a≤3) (hm : m≤14) (hg : GoodMsr (m : Int) ((a+1 : Nat) : Int)) {D : List Int} (hD : Bytes D) (l : List Int) (hb : Bytes l) : ∀ (d x : Nat),x+d=m →
  Ev (fun q=>laws_FnMsr.l1 q l ((2*a : Nat) : Int) (encL m a D) ((encL m a D).length : Int) (x : Int) (m : Int) ((a+1 : Nat) : Int) (msgM a D)) true
 | 0,x,hx=>by
  have hel:=encL_length m a D
  refine Ev.step (fun q=>laws_FnMsr.l1.eq_2 _ _ _ _ _ _ _ _ q) (ev_neg (by omega) ?_)
  exact laws_FnMsr.ev_tail l hb
 | d+1,x,hx=>by
  have hel:=encL_length m a D
  have hrl:=msrRow_length a x
  refine Ev.step (fun q=>laws_FnMsr.l1.eq_2 _ _ _ _ _ _ _ _ q) (ev_pos (by omega) (ev_pos (by omega) (ev_pos (by omega) ?_)))
  refine ev_bind (impl_MsrRow.ev (m : Int) ((a+1 : Nat) : Int) (x : Int)) ?_
  have hv : msrRowVal (m : Int) ((a+1 : Nat) : Int) (x : Int)=(msrRow a x,true):=by
   unfold msrRowVal
   rw [if_pos ⟨hg,by omega,by omega⟩,show (((a+1 : Nat) : Int) - 1).toNat=a by omega,Int.toNat_natCast]
  rw [hv,rdPz (by omega),encL_at]
  refine ev_pos rfl (ev_pos (by show ((msrRow a x).length : Int)=_;omega) ?_)
  exact laws_FnMsr.ev_l2 h1 h3 hD l _ x (by omega) _ _ _ _ (laws_FnMsr.ev_l1 h1 h3 hm hg hD l hb d (x+1) (by omega)) a 0 (by omega)
theorem laws_FnMsr.ev_vals {a m : Nat} (h1 : 1≤a) (h3 : a≤3) (hm : m≤14) (hg : GoodMsr (m : Int) ((a+1 : Nat) : Int)) {D : List Int} (hD : Bytes D) (hDl : D.length=a*(a+1)) (t : List Int) (ht : upTo m t) (htl : a+1≤t.length) (p : List Nat) (hp : t=p.map fun (x : Nat)=>(x : Int)) :
  decVal (m : Int) ((a+1 : Nat) : Int) (p.map (pieceAt a D))=(D,true)∧msgVal (m : Int) ((a+1 : Nat) : Int) D=(msgM a D,true)∧(∀ q ∈ p.map (pieceAt a D),Bytes q.f1):=by
 have hel:=encL_length m a D
 have hpl : p.length=t.length:=by rw [hp,List.length_map]
 have htm:=upTo_len ht
 have hpb : ∀ q ∈ p.map (pieceAt a D),Bytes q.f1:=fun q hq=>by
  obtain ⟨x,_,rfl⟩:=List.mem_map.1 hq
  exact applyM_bytes (trM_bytes (msgM_bytes a hD)) _
 have hN : pcN (p.map (pieceAt a D))=t:=by
  rw [hp]
  unfold pcN
  rw [List.map_map]
  rfl
 have hpm : ∀ x ∈ p,x < m:=fun x hx=>by
  have:=ht.1 (x : Int) (by rw [hp];exact List.mem_map.2 ⟨x,hx,rfl⟩)
  omega
 have hps : p.Pairwise (· < ·):=by
  have:=ht.2
  rw [hp,List.pairwise_map] at this
  exact this.imp fun h=>by omega
 have hok : pcOk (p.map (pieceAt a D)) m a=true:=by
  refine pcOk_yes fun j hj=>⟨?_,?_⟩
  ·rw [hN]
   rw [List.length_map] at hj
   refine riseAt_yes (by have:=upTo_rd ht (show j < t.length by omega);omega) ?_
   by_cases e : j=0
   ·exact .inl e
   ·exact .inr (upTo_lt ht (by omega) (by omega))
  ·rw [List.getElem_map]
   exact pieceAt_length h1 D _
 have hv : decVal (m : Int) ((a+1 : Nat) : Int) (p.map (pieceAt a D))=(D,true):=by
  unfold decVal
  rw [Int.toNat_natCast,Int.toNat_natCast,show a+1 - 1=a by omega,if_pos ⟨hg,by rw [List.length_map];omega,hok⟩,← List.map_take]
  exact data_back h1 h3 hD hDl (p.take (a+1)) (by rw [List.length_take];omega) (fun x hx=>by have:=hpm x (List.mem_of_mem_take hx);omega) (hps.sublist (List.take_sublist _ _))
 have hmv : msgVal (m : Int) ((a+1 : Nat) : Int) D=(msgM a D,true):=by
  unfold msgVal
  rw [if_pos ⟨hg,by rw [msg_size];omega⟩,Int.toNat_natCast,show a+1 - 1=a by omega]
 exact ⟨hv,hmv,hpb⟩
theorem laws_FnMsr.w1 {a : Nat} (h1 : 1≤a) (h3 : a≤3) : wrap64 (2*(a : Int))=((2*a : Nat) : Int):=by
 rw [wrap_id (by omega) (by omega)];omega
theorem laws_FnMsr.w2 {a : Nat} (h1 : 1≤a) (h3 : a≤3) : wrap64 (((a+1 : Nat) : Int)*(a : Int))=((a*(a+1) : Nat) : Int):=by
 have h : a=1∨a=2∨a=3:=by omega
 rcases h with rfl | rfl | rfl <;> rw [wrap_id (by omega) (by omega)] <;> rfl
theorem laws_FnMsr.ev_l0e {a m : Nat} (h1 : 1≤a) (h3 : a≤3) (hm : m≤14) (hg : GoodMsr (m : Int) ((a+1 : Nat) : Int)) {D : List Int} (hD : Bytes D) (hDl : D.length=a*(a+1)) (l : List Int) (hb : Bytes l) (t : List Int) (ht : upTo m t) (htl : a+1≤t.length) (p : List Nat) (hp : t=p.map fun (x : Nat)=>(x : Int)) :
  Ev (fun q=>laws_FnMsr.l0 q l D (encL m a D) (a : Int) ((2*a : Nat) : Int) ((a*(a+1) : Nat) : Int) (p.map (pieceAt a D)) t (t.length : Int) (p.length : Int) (m : Int) ((a+1 : Nat) : Int)) true:=by
 obtain ⟨hv,hmv,hpb⟩:=laws_FnMsr.ev_vals h1 h3 hm hg hD hDl t ht htl p hp
 have hpl : p.length=t.length:=by rw [hp,List.length_map]
 have htm:=upTo_len ht
 have hml : (msgM a D).length=2*a:=tab_length _ _ _
 have hlast:=laws_FnMsr.ev_l1 h1 h3 hm hg hD l hb m 0 (by omega)
 have ho:=impl_DecodeMsr.ev (m : Int) ((a+1 : Nat) : Int) (p.map (pieceAt a D)) (by rw [List.length_map];omega) hpb
 have hq:=impl_MessageOf.ev (m : Int) ((a+1 : Nat) : Int) D
 rw [hv] at ho
 rw [hmv] at hq
 have hx1:=laws_FnMsr.w1 h1 h3
 have hx2:=laws_FnMsr.w2 h1 h3
 clear hv hmv hpb hg hb hp htm h3
 generalize msgM a D=M at *
 generalize encL m a D=E at *
 generalize p.map (pieceAt a D)=Q at *
 have hlen : ((p.length : Nat) : Int)=((t.length : Nat) : Int):=by rw [hpl]
 have hend : ¬ ((p.length : Nat) : Int) < ((t.length : Nat) : Int):=by rw [hlen];exact Int.lt_irrefl _
 have hml2 : ((M.length : Nat) : Int)=((2*a : Nat) : Int):=by rw [hml]
 have hD2 : (((D.length : Nat) : Int) != ((a*(a+1) : Nat) : Int))=false:=by rw [hDl];simp
 refine Ev.step (fun q=>laws_FnMsr.l0.eq_2 _ _ _ _ _ _ _ _ _ _ _ _ q) (ev_neg hend ?_)
 refine ev_bind ho (ev_bind hq ?_)
 dsimp only
 refine ev_pos rfl (ev_bind (a:=true) (by rw [laws_sameBytes.ev];exact ev_now rfl) ?_)
 refine ev_pos rfl (ev_pos rfl (ev_pos (by rw [hx1];exact hml2) (ev_pos hx2 (ev_pos hx1.symm ?_))))
 rw [hD2]
 refine Ev.step (fun q=>laws_FnMsr.j2.eq_2 _ _ _ _ _ _ _ q) (ev_neg (by decide) ?_)
 exact hlast
theorem laws_FnMsr.ev_l0 {a m : Nat} (h1 : 1≤a) (hm : m≤14) {D : List Int} (l : List Int) (t : List Int) (ht : upTo m t) (p : List Nat) (hp : t=p.map fun (x : Nat)=>(x : Int)) (K : Ev (fun q=>laws_FnMsr.l0 q l D (encL m a D) (a : Int) ((2*a : Nat) : Int) ((a*(a+1) : Nat) : Int) (p.map (pieceAt a D)) t (t.length : Int) (p.length : Int) (m : Int) ((a+1 : Nat) : Int)) true) (d : Nat) : ∀ (i : Nat),i+d=p.length →
  Ev (fun q=>laws_FnMsr.l0 q l D (encL m a D) (a : Int) ((2*a : Nat) : Int) ((a*(a+1) : Nat) : Int) ((p.take i).map (pieceAt a D)) t (t.length : Int) (i : Int) (m : Int) ((a+1 : Nat) : Int)) true:=by
 induction d with
 | zero =>
  intro i hi
  rw [List.take_of_length_le (by omega),show i=p.length by omega]
  exact K
 | succ d ih =>
  intro i hi
  have hel:=encL_length m a D
  have hpl : p.length=t.length:=by rw [hp,List.length_map]
  have htm:=upTo_len ht
  have hi2 : i < p.length:=by omega
  have hr:=upTo_rd ht (show i < t.length by omega)
  have hri : rd t (i : Int)=(p[i] : Int):=by
   rw [rd_get (by omega)]
   simp [hp]
  rw [hri] at hr
  refine Ev.step (fun q=>laws_FnMsr.l0.eq_2 _ _ _ _ _ _ _ _ _ _ _ _ q) ?_
  rw [hri]
  refine ev_pos (by omega) (ev_pos (by omega) (ev_pos (by omega) (ev_pos (by omega) (ev_pos (by omega) (ev_pos (by rw [List.length_map,List.length_take];omega) ?_)))))
  rw [rdPz (by omega),encL_at,inc (by omega)]
  have e : (p.take i).map (pieceAt a D) ++ [(⟨(pieceAt a D p[i]).f0,(pieceAt a D p[i]).f1⟩ : S76)]=(p.take (i+1)).map (pieceAt a D):=by
   rw [List.take_succ_eq_append_getElem hi2,List.map_append]
   rfl
  rw [e]
  exact ih (i+1) (by omega)
theorem FnMsr : ∀ (l0 l1 : List Int),(l0.length≤maxLen∧∀ x ∈ l0,(Lit.int .u8 x).wf=true)→(l1.length≤maxLen∧∀ x ∈ l1,(Lit.int .u8 x).wf=true)→∃ k,laws_FnMsr.f k l0 l1=some true:=by
 intro l0 l1 h0 h1
 refine Ev.rounds ?_
 unfold laws_FnMsr.f
 by_cases hz : wrap64 ((l0.length : Int)+(l1.length : Int)) > 1048576
 ·exact ev_pos hz (ev_now rfl)
 ·refine ev_neg hz ?_
  have hm:=h1.1
  unfold maxLen at hm
  have hb1:=Bytes.of_wf h1.2
  obtain ⟨n,k,D,e,hD,hl⟩:=spec_DrawEncodeMsr.some_ (Bytes.of_wf h0.2)
  have hel : (encVal n k D).1.length≤1048576:=by
   unfold encVal
   split
   ·rename_i h
    show (encL _ _ _).length≤_
    rw [encL_length]
    omega
   ·simp
  refine ev_bind e (ev_bind (impl_EncodeMsr.ev n k hD) (ev_bind (spec_EncodeMsr.ev n k hD) ?_))
  rw [impl_MsrSizes.ev]
  simp only [Option.bind_some]
  refine ev_neg (by simp) (ev_bind (laws_samePieces.ev _ hel) (ev_pos rfl ?_))
  rw [impl_GoodMsr.ev,spec_GoodMsr.ev]
  simp only [Option.bind_some]
  refine ev_neg (by simp) ?_
  have hsz : ((spec_MsrSizes.val n k).2.2.2 != decide (GoodMsr n k))=false:=by
   unfold spec_MsrSizes.val
   by_cases c : GoodMsr n k
   ·rw [if_pos c,decide_eq_true c];rfl
   ·rw [if_neg c,decide_eq_false c];rfl
  rw [hsz]
  refine Ev.step (fun q=>laws_FnMsr.j0.eq_2 _ _ _ _ _ _ _ _ _ _ q) (ev_neg (by decide) ?_)
  by_cases c : GoodMsr n k∧(D.length : Int)=k*(k - 1)
  ·obtain ⟨a,m,rfl,rfl,g1,g2,g3,g4⟩:=GoodMsr_nat c.1
   have hDl : D.length=a*(a+1):=by
    have:=@enc_size a
    have:=c.2
    omega
   have hev : encVal (m : Int) ((a+1 : Nat) : Int) D=(encL m a D,true):=by
    unfold encVal
    rw [if_pos c,Int.toNat_natCast,Int.toNat_natCast,show a+1 - 1=a by omega]
   have hsv : spec_MsrSizes.val (m : Int) ((a+1 : Nat) : Int)=((a : Int),((2*a : Nat) : Int),((a*(a+1) : Nat) : Int),true):=by
    unfold spec_MsrSizes.val
    rw [if_pos c.1]
    have:=@enc_size a
    rw [this,show ((a+1 : Nat) : Int) - 1=(a : Int) by omega,show 2*(a : Int)=((2*a : Nat) : Int) by omega]
   rw [hev,hsv]
   refine ev_pos rfl ?_
   obtain ⟨t,et,ht,htl⟩:=laws_someOf.some_ m (a+1) l1 (by omega) (by omega)
   refine ev_bind et ?_
   have hp : t=(t.map Int.toNat).map fun (x : Nat)=>(x : Int):=by
    rw [List.map_map]
    conv=>lhs;rw [← List.map_id t]
    refine List.map_congr_left fun x hx=>?_
    have:=(ht.1 x hx).1
    show x=((x.toNat : Nat) : Int)
    omega
   exact laws_FnMsr.ev_l0 g1 g4 l1 t ht (t.map Int.toNat) hp (laws_FnMsr.ev_l0e g1 g2 g4 c.1 hD hDl l1 hb1 t ht htl (t.map Int.toNat) hp) (t.map Int.toNat).length 0 (by omega)
  ·have hev : encVal n k D=([],false):=if_neg c
   rw [hev]
   exact ev_neg (by simp) (laws_FnMsr.ev_tail l1 hb1)

end Go.Proofs.Yteflgifmdojahaa.Pure
-- HALVED
-- SQUEEZED
