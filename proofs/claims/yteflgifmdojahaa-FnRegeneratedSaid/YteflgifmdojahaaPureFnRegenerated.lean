/- The help of any others, as many as are asked for, brings the lost piece back byte for byte, for all drawn shapes and data; there is no condition. -/
import Derived.Test.YteflgifmdojahaaPFnRegeneratedx8
import Derived.Test.YteflgifmdojahaaVFnRegeneratedA
import Derived.Test.YteflgifmdojahaaVFnRegeneratedC
namespace Go.Proofs.Yteflgifmdojahaa.Pure
open Go.RowKit Go.Proofs.Yteflgifmdojahaa.PFnRegenerated Go.Proofs.YteflgifmdojahaaW.PrintWords Go.Proofs.YteflgifmdojahaaW.PrintLast Go.Proofs.Yteflgifmdojahaa.Gf Go.Proofs.Yteflgifmdojahaa.Kit Go.Proofs.Yteflgifmdojahaa.KitW
open Go.Proofs.Yteflgifmdojahaa.KitN hiding idM_length
set_option linter.unusedVariables false
set_option linter.unusedSimpArgs false

theorem low255 (y : Int) : 0≤wrap64 (Go.bits .and .u64 y 255)∧wrap64 (Go.bits .and .u64 y 255)≤255:=by
 have e : Go.bits .and .u64 y 255=IntKind.u64.wrap (((BitVec.ofInt 64 y &&& BitVec.ofInt 64 255).toNat : Nat) : Int):=rfl
 have h : (BitVec.ofInt 64 y &&& BitVec.ofInt 64 255).toNat≤255:=by
  rw [BitVec.toNat_and]
  exact Nat.le_trans Nat.and_le_right (by decide)
 rw [e]
 generalize (BitVec.ofInt 64 y &&& BitVec.ofInt 64 255).toNat=n at h
 have e2 : IntKind.u64.wrap (n : Int)=(n : Int):=by
  first
   | (rw [IntKind.wrap_u64];omega)
   | (simp [IntKind.wrap,IntKind.bits,IntKind.signed];omega)
 rw [e2,wrap_id (by omega) (by omega)]
 omega
theorem spec_l1Cur_next.some_ {s : List Int} (hs : Bytes s) {a z : Int} (h0 : 0≤a) (h1 : a≤4611686018427387904) : ∃ x z',spec_l1Cur_next.f s a z=some (x,a+1,z')∧0≤x∧x≤255:=by
 unfold spec_l1Cur_next.f
 have e : wrap64 (a+1)=a+1:=wrap_id (by omega) (by omega)
 rw [e]
 by_cases c1 : a < (s.length : Int)
 ·rw [if_pos c1,if_pos h0,if_pos (show a+1≤(s.length : Int) by omega)]
  refine ⟨_,_,rfl,?_⟩
  have hb : Byte (rd s a):=by
   obtain ⟨i,rfl⟩:=Int.eq_ofNat_of_zero_le h0
   have hi : i < s.length:=by omega
   rw [rd_nat,List.getD_eq_getElem?_getD,List.getElem?_eq_getElem hi]
   exact hs _ (List.getElem_mem hi)
  have hb1:=hb.1
  have hb2:=hb.2
  rw [wrap_id hb1 (by omega)]
  omega
 ·rw [if_neg c1,if_neg (show ¬ a+1≤(s.length : Int) by omega)]
  exact ⟨_,_,rfl,low255 _⟩

theorem spec_l1Cur_pick.some_ {s : List Int} (hs : Bytes s) {a z n : Int} (h0 : 0≤a) (h1 : a≤4611686018427387000) (hn : 1≤n) : ∃ x b z',spec_l1Cur_pick.f s a z n=some (x,b,z')∧0≤x∧x < n∧a≤b∧b≤a+2:=by
 unfold spec_l1Cur_pick.f
 by_cases c1 : n≤1
 ·rw [if_pos c1]
  exact ⟨_,_,_,rfl,by omega,by omega,by omega,by omega⟩
 ·rw [if_neg c1]
  obtain ⟨x,z1,e,hx0,hx1⟩:=spec_l1Cur_next.some_ hs (z:=z) h0 (by omega)
  rw [e,Option.bind_some]
  dsimp only
  by_cases c2 : n > 200
  ·rw [if_pos c2]
   obtain ⟨y,z2,e2,hy0,hy1⟩:=spec_l1Cur_next.some_ hs (a:=a+1) (z:=z1) (by omega) (by omega)
   rw [e2,Option.bind_some,if_neg (by omega)]
   refine ⟨_,a+1+1,_,rfl,?_,Int.tmod_lt_of_pos _ (by omega),by omega,by omega⟩
   rw [wrap_id (i:=x*256) (by omega) (by omega),wrap_id (by omega) (by omega)]
   exact Int.tmod_nonneg _ (by omega)
  ·rw [if_neg c2,if_neg (by omega)]
   exact ⟨_,a+1,_,rfl,Int.tmod_nonneg _ hx0,Int.tmod_lt_of_pos _ (by omega),by omega,by omega⟩

theorem spec_l1Cur_one.some_ {s : List Int} (hs : Bytes s) {a z n : Int} (h0 : 0≤a) (h1 : a≤4611686018427387000) (hn : 1≤n) : ∃ x b z',spec_l1Cur_one.f s a z n=some (x,b,z')∧a≤b∧b≤a+2:=by
 unfold spec_l1Cur_one.f
 obtain ⟨x,b,z1,e,hx0,hx1,hb0,hb1⟩:=spec_l1Cur_pick.some_ hs (z:=z) h0 h1 hn
 rw [e,Option.bind_some]
 exact ⟨_,_,_,rfl,hb0,hb1⟩

theorem spec_l1Cur_among.some_ {s : List Int} (hs : Bytes s) {a z : Int} {l : List Int} (h0 : 0≤a) (h1 : a≤4611686018427387000) (hl : 1≤l.length) : ∃ x b z',spec_l1Cur_among.f s a z l=some (x,b,z')∧a≤b∧b≤a+2:=by
 unfold spec_l1Cur_among.f
 obtain ⟨x,b,z1,e,hx0,hx1,hb0,hb1⟩:=spec_l1Cur_pick.some_ hs (z:=z) (n:=(l.length : Int)) h0 h1 (by omega)
 rw [e,Option.bind_some,if_pos hx0,if_pos hx1]
 exact ⟨_,_,_,rfl,hb0,hb1⟩

theorem spec_l1Cur_byte.some_ {s : List Int} (hs : Bytes s) {a z : Int} (h0 : 0≤a) (h1 : a≤4611686018427386000) : ∃ x b z',spec_l1Cur_byte.f s a z=some (x,b,z')∧Byte x∧a≤b∧b≤a+4:=by
 unfold spec_l1Cur_byte.f
 obtain ⟨x,b,z1,e,hb0,hb1⟩:=spec_l1Cur_one.some_ hs (z:=z) (n:=5) h0 (by omega) (by decide)
 rw [e,Option.bind_some]
 dsimp only
 have hm : ∀ v : Int,Byte (v % 256):=fun v=>⟨Int.emod_nonneg _ (by decide),Int.emod_lt_of_pos _ (by decide)⟩
 cases x with
 | true =>
  obtain ⟨y,c,z2,e2,hc0,hc1⟩:=spec_l1Cur_among.some_ hs (a:=b) (z:=z1) (l:=[0,1,2,3,255,27]) (by omega) (by omega) (by decide)
  rw [if_pos rfl,e2,Option.bind_some]
  exact ⟨_,c,_,rfl,hm _,by omega,by omega⟩
 | false =>
  obtain ⟨y,c,z2,e2,_,_,hc0,hc1⟩:=spec_l1Cur_pick.some_ hs (a:=b) (z:=z1) (n:=256) (by omega) (by omega) (by decide)
  rw [if_neg (by decide),e2,Option.bind_some]
  exact ⟨_,c,_,rfl,hm _,by omega,by omega⟩

set_option maxRecDepth 4000 in
theorem spec_l1Cur_vector.some_l0 {s : List Int} (hs : Bytes s) : ∀ (n : Nat) (o : List Int) (a z : Int),n≤100→0≤a→a+4*n≤4611686018427380000→o.length+n≤200→∃ r b z',Ev (fun k=>spec_l1Cur_vector.l0 k (n : Int) o s a z) (o ++ r,b,z')∧Bytes r∧r.length=n∧a≤b∧b≤a+4*n
 | 0,o,a,z,_,h0,h1,_=>by
  refine ⟨[],a,z,?_,fun x hx=>(by cases hx),rfl,by omega,by omega⟩
  refine Ev.step (fun k=>spec_l1Cur_vector.l0.eq_2 _ _ _ _ _ k) ?_
  refine ev_neg (by omega) (ev_now ?_)
  rw [List.append_nil]
 | n+1,o,a,z,hn,h0,h1,ho=>by
  obtain ⟨x,b,z1,e,hx,hb0,hb1⟩:=spec_l1Cur_byte.some_ hs (a:=a) (z:=z) h0 (by omega)
  obtain ⟨r,c,z2,he,hr,hrl,hc0,hc1⟩:=spec_l1Cur_vector.some_l0 hs n (o ++ [x]) b z1 (by omega) (by omega) (by omega) (by rw [List.length_append];simp;omega)
  refine ⟨x :: r,c,z2,?_,fun y hy=>?_,by rw [List.length_cons,hrl],by omega,by omega⟩
  ·refine Ev.step (fun k=>spec_l1Cur_vector.l0.eq_2 _ _ _ _ _ k) ?_
   refine ev_pos (by omega) ?_
   rw [e]
   simp only [Option.bind_some]
   refine ev_pos (by omega) ?_
   rw [show wrap64 (((n+1 : Nat) : Int) - 1)=(n : Int) by rw [wrap_id (by omega) (by omega)];omega]
   rw [List.append_assoc] at he
   exact he
  ·rcases List.mem_cons.1 hy with rfl | h
   ·exact hx
   ·exact hr y h
theorem spec_l1Cur_vector.some_ {s : List Int} (hs : Bytes s) {n a z : Int} (hn0 : 0≤n) (hn : n≤100) (h0 : 0≤a) (h1 : a≤4611686018427370000) : ∃ r b z',Ev (fun k=>spec_l1Cur_vector.f k s a z n) (r,b,z')∧Bytes r∧a≤b∧b≤a+400:=by
 obtain ⟨m,rfl⟩:=Int.eq_ofNat_of_zero_le hn0
 obtain ⟨r,b,z',he,hr,_,hb0,hb1⟩:=spec_l1Cur_vector.some_l0 hs m [] a z (by omega) h0 (by omega) (by simp;omega)
 exact ⟨r,b,z',he,hr,hb0,by omega⟩

theorem spec_l1Cur_vector.some_n {s : List Int} (hs : Bytes s) {a z : Int} (n : Nat) (hn : n≤100) (h0 : 0≤a) (h1 : a≤4611686018427370000) : ∃ r b z',Ev (fun k=>spec_l1Cur_vector.f k s a z (n : Int)) (r,b,z')∧Bytes r∧r.length=n∧a≤b∧b≤a+400:=by
 obtain ⟨r,b,z',he,hr,hl,hb0,hb1⟩:=spec_l1Cur_vector.some_l0 hs n [] a z hn h0 (by omega) (by simp;omega)
 exact ⟨r,b,z',he,hr,hl,hb0,by omega⟩

/-- Numbers from 0 on below n, rising. -/
def upTo (n : Nat) (l : List Int) : Prop:=(∀ x ∈ l,0≤x∧x < (n : Int))∧l.Pairwise (· < ·)
theorem upTo_nil (n : Nat) : upTo n []:=⟨(fun x hx=>by cases hx),List.Pairwise.nil⟩
theorem upTo_more {n m : Nat} {l : List Int} (h : upTo n l) (hm : n≤m) : upTo m l:=⟨fun x hx=>by have:=h.1 x hx;omega,h.2⟩
theorem upTo_snoc {n : Nat} {l : List Int} (h : upTo n l) : upTo (n+1) (l ++ [(n : Int)]):=by
 refine ⟨fun x hx=>?_,List.pairwise_append.2 ⟨h.2,List.pairwise_singleton _ _,fun x hx y hy=>?_⟩⟩
 ·rcases List.mem_append.1 hx with h2 | h2
  ·have:=h.1 x h2;omega
  ·simp at h2;omega
 ·simp at hy;subst hy
  exact (h.1 x hx).2
theorem upTo_take {n : Nat} {l : List Int} (h : upTo n l) (k : Nat) : upTo n (l.take k):=⟨fun x hx=>h.1 x (List.mem_of_mem_take hx),h.2.sublist (List.take_sublist k l)⟩
theorem upTo_rd {n : Nat} {l : List Int} (h : upTo n l) {j : Nat} (hj : j < l.length) : 0≤rd l (j : Int)∧rd l (j : Int) < (n : Int):=by
 rw [rd_get hj]
 exact h.1 _ (List.getElem_mem hj)
theorem upTo_lt {n : Nat} {l : List Int} (h : upTo n l) {i j : Nat} (hij : i < j) (hj : j < l.length) : rd l (i : Int) < rd l (j : Int):=by
 rw [rd_get hj,rd_get (by omega)]
 exact List.pairwise_iff_getElem.1 h.2 i j (by omega) hj hij
theorem upTo_rising {n : Nat} {l : List Int} (h : upTo n l) : rising l n=true:=by
 refine rising_yes fun j hj=>riseAt_yes ?_ ?_
 ·have:=upTo_rd h hj;omega
 ·by_cases e : j=0
  ·exact .inl e
  ·exact .inr (upTo_lt h (by omega) hj)
theorem upTo_len {n : Nat} {l : List Int} (h : upTo n l) : l.length≤n:=rising_len (upTo_rising h)

theorem spec_l2Blank.ev_l0 (n m : Nat) (hn : n≤1048576) (hm : m≤1048576) : ∀ (d i : Nat),i+d=n→Ev (fun k=>spec_l2Blank.l0 k (n : Int) (m : Int) (i : Int) (blankM i m)) (blankM n m)
 | 0,i,hi=>by
  obtain rfl : i=n:=by omega
  refine Ev.step (fun k=>spec_l2Blank.l0.eq_2 _ _ _ _ k) ?_
  exact ev_neg (by omega) (ev_now rfl)
 | d+1,i,hi=>by
  have ih:=spec_l2Blank.ev_l0 n m hn hm d (i+1) (by omega)
  refine Ev.step (fun k=>spec_l2Blank.l0.eq_2 _ _ _ _ k) ?_
  refine ev_pos (by omega) (ev_pos (by omega) (ev_pos (by omega) (ev_pos (by simp [blankM];omega) ?_)))
  rw [inc (by omega),Int.toNat_natCast]
  have e : blankM i m ++ [List.replicate m 0]=blankM (i+1) m:=by
   unfold blankM;rw [List.replicate_succ']
  rw [e]
  exact ih
theorem spec_l2Blank.ev (n m : Nat) (hn : n≤1048576) (hm : m≤1048576) : Ev (fun k=>spec_l2Blank.f k (n : Int) (m : Int)) (blankM n m):=by
 unfold spec_l2Blank.f
 exact spec_l2Blank.ev_l0 n m hn hm n 0 (by omega)

/-- Where a byte of data stands in the message's matrix. -/
def plc (a r j : Nat) : Nat:=(r / a)*(a*(a+1) / 2)+(min (r % a) j*a - min (r % a) j*(min (r % a) j - 1) / 2+(max (r % a) j - min (r % a) j))
theorem plc_lt {a : Nat} (h1 : 1≤a) (h3 : a≤3) {r j : Nat} (hr : r < 2*a) (hj : j < a) : plc a r j < a*(a+1):=by
 have h : a=1∨a=2∨a=3:=by omega
 have key : (∀ r,r < 2→∀ j,j < 1→plc 1 r j < 2)∧(∀ r,r < 4→∀ j,j < 2→plc 2 r j < 6)∧(∀ r,r < 6→∀ j,j < 3→plc 3 r j < 12):=by decide
 rcases h with rfl | rfl | rfl
 ·exact key.1 r hr j hj
 ·exact key.2.1 r hr j hj
 ·exact key.2.2 r hr j hj
/-- The message's matrix. -/
def msgM (a : Nat) (D : List Int) : List (List Int):=tab (2*a) a fun r j=>D.getD (plc a r j) 0
theorem msg_list (f : Nat→Int) : (List.range 2).map f=[f 0,f 1]∧(List.range 6).map f=[f 0,f 1,f 2,f 3,f 4,f 5]∧(List.range 12).map f=[f 0,f 1,f 2,f 3,f 4,f 5,f 6,f 7,f 8,f 9,f 10,f 11]:=⟨rfl,rfl,rfl⟩
theorem spec_l5Message.ev (n : Int) {a : Nat} (ha1 : 1≤a) (ha3 : a≤3) {D : List Int} (hl : D.length=a*(a+1)) : Ev (fun k=>spec_l5Message.f k n ((a+1 : Nat) : Int) D) (msgM a D):=by
 unfold spec_l5Message.f
 have e1 : wrap64 (((a+1 : Nat) : Int) - 1)=(a : Int):=by unfold wrap64;omega
 have e2 : wrap64 (2*(a : Int))=((2*a : Nat) : Int):=by unfold wrap64;omega
 rw [e1,e2]
 refine ev_bind (spec_l2Blank.ev (2*a) a (by omega) (by omega)) ?_
 refine Ev.of (k:=60) (fun k=>(spec_l5Message.mono_l k).1 _ _ _ _ _) ?_
 have hD:=row_self hl
 generalize D.getD=g at hD
 have h : a=1∨a=2∨a=3:=by omega
 unfold msgM
 rcases h with rfl | rfl | rfl
 ·rw [hD]
  generalize (fun j=>g j 0)=f
  rw [show (1*(1+1))=2 from rfl,(msg_list f).1]
  show _=_;kernel_rfl
 ·rw [hD]
  generalize (fun j=>g j 0)=f
  rw [show (2*(2+1))=6 from rfl,(msg_list f).2.1]
  show _=_;kernel_rfl
 ·rw [hD]
  generalize (fun j=>g j 0)=f
  rw [show (3*(3+1))=12 from rfl,(msg_list f).2.2]
  show _=_;kernel_rfl

theorem rdSS (l : List (List Int)) (i : Nat) (h : i < l.length) : rd_L1 l (i : Int)=l[i]:=by unfold rd_L1;simp [List.getD,h]
theorem rdSS0 (l : List (List Int)) (i : Int) : rd_L1 l i=l.getD i.toNat []:=rfl
theorem spec_l1Times.ev_l0 : ∀ (n o x y : Nat),y < 2 ^ n→n≤8→o < 256→x < 256 →
  Ev (fun k=>spec_l1Times.l0 k (o : Int) (x : Int) (y : Int)) ((T n o x y : Nat) : Int)
 | 0,o,x,y,hy,_,ho,hx=>by
  refine Ev.step (fun k=>spec_l1Times.l0.eq_2 _ _ _ k) ?_
  have : y=0:=by simpa using hy
  subst this
  refine ev_neg (by decide) (ev_now ?_)
  simp only [T]
  omega
 | n+1,o,x,y,hy,hn,ho,hx=>by
  have hy8 : y < 256:=Nat.lt_of_lt_of_le hy (Nat.pow_le_pow_right (n:=2) (by decide) hn)
  by_cases h0 : y=0
  ·subst h0
   refine Ev.step (fun k=>spec_l1Times.l0.eq_2 _ _ _ k) ?_
   refine ev_neg (by decide) (ev_now ?_)
   rw [T_zero]
   omega
  refine Ev.step (fun k=>spec_l1Times.l0.eq_2 _ _ _ k) ?_
  refine ev_pos (by omega) ?_
  have e2 : wrap64 ((x : Int)*2)=((2*x : Nat) : Int):=by rw [wrap_id (by omega) (by omega)];omega
  have e3 : ((y : Int) / 2)=((y / 2 : Nat) : Int):=by omega
  have e4 : Go.bits .xor .i64 (o : Int) (x : Int)=((o ^^^ x : Nat) : Int):=xor_i64 (by omega) (by omega)
  have e5 : Go.bits .xor .i64 ((2*x : Nat) : Int) 283=((2*x ^^^ 283 : Nat) : Int):=xor_i64 (m:=2*x) (n:=283) (by omega) (by omega)
  rw [and1_i64 (by omega),e2,e3,e4,e5]
  have hT : T (n+1) o x y=T n (if y % 2=1 then o ^^^ x else o) (xt x) (y / 2):=by rw [T]
  rw [hT]
  have hxt:=xt_lt hx
  have hox:=xor_lt ho hx
  have hh : y / 2 < 2 ^ n:=by rw [Nat.pow_succ] at hy;omega
  by_cases h1 : y % 2=1
  ·rw [if_pos h1]
   refine ev_pos (by omega) ?_
   by_cases h2 : 2*x > 255
   ·refine ev_pos (by omega) ?_
    have : xt x=2*x ^^^ 283:=by unfold xt;rw [if_pos h2]
    rw [this] at hxt ⊢
    exact spec_l1Times.ev_l0 n _ _ _ hh (by omega) hox hxt
   ·refine ev_neg (by omega) ?_
    have : xt x=2*x:=by unfold xt;rw [if_neg h2]
    rw [this] at hxt ⊢
    exact spec_l1Times.ev_l0 n _ _ _ hh (by omega) hox hxt
  ·rw [if_neg h1]
   refine ev_neg (by omega) ?_
   by_cases h2 : 2*x > 255
   ·refine ev_pos (by omega) ?_
    have : xt x=2*x ^^^ 283:=by unfold xt;rw [if_pos h2]
    rw [this] at hxt ⊢
    exact spec_l1Times.ev_l0 n _ _ _ hh (by omega) ho hxt
   ·refine ev_neg (by omega) ?_
    have : xt x=2*x:=by unfold xt;rw [if_neg h2]
    rw [this] at hxt ⊢
    exact spec_l1Times.ev_l0 n _ _ _ hh (by omega) ho hxt
theorem spec_l1Times.ev {a b : Int} (ha : Byte a) (hb : Byte b) : Ev (fun k=>spec_l1Times.f k a b) (mul a b):=by
 obtain ⟨m,hm,rfl⟩:=ha.nat
 obtain ⟨n,hn,rfl⟩:=hb.nat
 unfold spec_l1Times.f
 rw [wrap_id (i:=(m : Int)) (by omega) (by omega),wrap_id (i:=(n : Int)) (by omega) (by omega)]
 have h:=spec_l1Times.ev_l0 8 0 m n hn (Nat.le_refl _) (by decide) hm
 exact ev_eq h (by unfold Gf.mul gm;simp)

theorem spec_l1Dot.ev_l0 (v w : List Int) (hv : Bytes v) (hw : Bytes w) (hl : v.length=w.length) (hs : v.length < 140737488355328) : ∀ (n i : Nat) (o : Int),i+n=v.length→Byte o →
  Ev (fun k=>spec_l1Dot.l0 k v w o (v.length : Int) (i : Int)) (gx o (dotV (v.drop i) (w.drop i)))
 | 0,i,o,hi,ho=>by
  refine Ev.step (fun k=>spec_l1Dot.l0.eq_2 _ _ _ _ _ k) ?_
  refine ev_neg (by omega) (ev_now ?_)
  rw [List.drop_of_length_le (by omega)]
  exact (gx_zero ho).symm
 | n+1,i,o,hi,ho=>by
  refine Ev.step (fun k=>spec_l1Dot.l0.eq_2 _ _ _ _ _ k) ?_
  refine ev_pos (by omega) (ev_pos (by omega) (ev_pos (by omega) (ev_pos (by omega) ?_)))
  have bv : Byte (rd v (i : Int)):=bytes_rd hv (by omega)
  have bw : Byte (rd w (i : Int)):=bytes_rd hw (by omega)
  refine ev_bind (spec_l1Times.ev bv bw) ?_
  have bm:=Byte.mul bv (rd w (i : Int))
  have bg:=Byte.gx ho bm
  rw [inc (by omega),xor_u8 ho bm]
  refine ev_eq (spec_l1Dot.ev_l0 v w hv hw hl hs n (i+1) _ (by omega) bg) ?_
  rw [drop_cons (l:=v) (i:=i) (by omega),drop_cons (l:=w) (i:=i) (by omega),rd_get (by omega),rd_get (by omega),dotV,gx_assoc]
theorem spec_l1Dot.ev {v w : List Int} (hv : Bytes v) (hw : Bytes w) (hl : v.length=w.length) (hs : v.length < 140737488355328) : Ev (fun k=>spec_l1Dot.f k v w) (dotV v w):=by
 unfold spec_l1Dot.f
 refine ev_eq (spec_l1Dot.ev_l0 v w hv hw hl hs v.length 0 0 (by omega) .zero) ?_
 exact zero_gx (dotV_byte hv)

def applyM (m : List (List Int)) (v : List Int) : List Int:=m.map fun r=>dotV r v
theorem applyM_length (m : List (List Int)) (v : List Int) : (applyM m v).length=m.length:=by simp [applyM]
theorem applyM_bytes {m : List (List Int)} (h : matBytes m) (v : List Int) : Bytes (applyM m v):=by
 intro x hx
 simp only [applyM,List.mem_map] at hx
 obtain ⟨r,hr,rfl⟩:=hx
 exact dotV_byte (h r hr)
theorem spec_l2Apply.ev_l0 (m : List (List Int)) (v : List Int) (hv : Bytes v) (hn : v.length≤1048576) (hr : ∀ r ∈ m,Bytes r∧r.length=v.length) (hl : m.length≤1048576) : ∀ (d i : Nat) (o : List Int),i+d=m.length→o=(applyM m v).take i →
  Ev (fun k=>spec_l2Apply.l0 k v o m (m.length : Int) (i : Int)) (applyM m v)
 | 0,i,o,hi,ho=>by
  refine Ev.step (fun k=>spec_l2Apply.l0.eq_2 _ _ _ _ _ k) ?_
  refine ev_neg (by omega) (ev_now ?_)
  rw [ho,List.take_of_length_le (by rw [applyM_length];omega)]
 | d+1,i,o,hi,ho=>by
  have hlen : o.length=i:=by rw [ho,List.length_take,applyM_length];omega
  have hri:=hr _ (List.getElem_mem (show i < m.length by omega))
  refine Ev.step (fun k=>spec_l2Apply.l0.eq_2 _ _ _ _ _ k) ?_
  refine ev_pos (by omega) (ev_pos (by omega) (ev_pos (by omega) ?_))
  rw [rdSS _ i (by omega)]
  refine ev_bind (spec_l1Dot.ev hri.1 hv hri.2 (by omega)) (ev_pos (by omega) ?_)
  rw [inc (by omega)]
  refine spec_l2Apply.ev_l0 m v hv hn hr hl d (i+1) _ (by omega) ?_
  rw [List.take_succ_eq_append_getElem (by rw [applyM_length];omega),← ho]
  simp [applyM]
theorem spec_l2Apply.ev {m : List (List Int)} {v : List Int} (hv : Bytes v) (hn : v.length≤1048576) (hr : ∀ r ∈ m,Bytes r∧r.length=v.length) (hl : m.length≤1048576) : Ev (fun k=>spec_l2Apply.f k m v) (applyM m v):=by
 unfold spec_l2Apply.f
 exact spec_l2Apply.ev_l0 m v hv hn hr hl m.length 0 [] (by omega) rfl

section
open Go.Proofs.Yteflgifmdojahaa.Fld Go.Proofs.Yteflgifmdojahaa.Lin
theorem toF_dot : ∀ (v w : List Int),Bytes v→Bytes w→v.length=w.length→toF (dotV v w)=sm (fun i=>toF (v.getD i 0)*toF (w.getD i 0)) v.length
 | [],[],_,_,_=>toF_zero
 | x :: v,y :: w,hv,hw,hl=>by
  have hx : Byte x:=hv x (by simp)
  have hy : Byte y:=hw y (by simp)
  have hv2 : Bytes v:=fun z hz=>hv z (by simp [hz])
  have hw2 : Bytes w:=fun z hz=>hw z (by simp [hz])
  show toF (gx (mul x y) (dotV v w))=sm _ (v.length+1)
  rw [toF_gx (hx.mul y) (dotV_byte hv2),toF_mul hx hy,toF_dot v w hv2 hw2 (by simpa using hl),Nat.add_comm,sm_split]
  have e1 : sm (fun i=>toF ((x :: v).getD i 0)*toF ((y :: w).getD i 0)) 1=toF x*toF y:=F8.zero_add _
  rw [e1]
  congr 1
  refine sm_congr _ fun k _=>?_
  rw [Nat.add_comm 1 k,List.getD_cons_succ,List.getD_cons_succ]
theorem list_same {v w : List Int} (hl : v.length=w.length) (h : ∀ i,i < v.length→v.getD i 0=w.getD i 0) : v=w:=by
 refine List.ext_getElem hl fun i h1 h2=>?_
 have:=h i h1
 rw [List.getD_eq_getElem?_getD,List.getD_eq_getElem?_getD,List.getElem?_eq_getElem h1,List.getElem?_eq_getElem h2] at this
 exact this
theorem applyM_getD {M : List (List Int)} {i : Nat} (h : i < M.length) (v : List Int) : (applyM M v).getD i 0=dotV (M.getD i []) v:=by
 unfold applyM
 rw [List.getD_eq_getElem?_getD,List.getElem?_map,List.getElem?_eq_getElem h,List.getD_eq_getElem?_getD,List.getElem?_eq_getElem h]
 rfl
theorem rowM_ok {M : List (List Int)} {n i : Nat} (hM : ∀ r ∈ M,okI n r) (h : i < M.length) : okI n (M.getD i []):=by
 rw [List.getD_eq_getElem?_getD,List.getElem?_eq_getElem h]
 exact hM _ (List.getElem_mem h)
theorem toF_apply {M : List (List Int)} {v : List Int} {n i : Nat} (hM : ∀ r ∈ M,okI n r) (hv : Bytes v) (hl : v.length=n) (h : i < M.length) : toF ((applyM M v).getD i 0)=sm (fun j=>en M i j*toF (v.getD j 0)) n:=by
 have hr:=rowM_ok hM h
 rw [applyM_getD h,toF_dot _ _ hr.1 hv (by rw [hr.2,hl]),hr.2]
 rfl
/-- What a matrix with an inverse has told is found again. -/
theorem solve_back {M : List (List Int)} (hM : ∀ r ∈ M,okI M.length r) (hr : (rowI.red M M.length).2=M.length) (hi1 : (invM M).1.length=M.length) (hi2 : ∀ r ∈ (invM M).1,okI M.length r) {y : List Int} (hy : Bytes y) (hl : y.length=M.length) : applyM (invM M).1 (applyM M y)=y:=by
 have ha : Bytes (applyM M y):=applyM_bytes (fun r h=>(hM r h).1) y
 have hal : (applyM M y).length=M.length:=applyM_length _ _
 refine list_same (by rw [applyM_length,hi1,hl]) fun i hi=>?_
 rw [applyM_length,hi1] at hi
 have b1 : Byte ((applyM (invM M).1 (applyM M y)).getD i 0):=bytes_getD (applyM_bytes (fun r h=>(hi2 r h).1) _) i
 refine toF_inj b1 (bytes_getD hy i) ?_
 rw [toF_apply hi2 ha hal (by omega)]
 have e : sm (fun j=>en (invM M).1 i j*toF ((applyM M y).getD j 0)) M.length=sm (fun j=>sm (fun c=>en (invM M).1 i j*(en M j c*toF (y.getD c 0))) M.length) M.length :=
  sm_congr _ fun j hj=>by rw [toF_apply hM hy hl hj,sm_mul]
 rw [e,sm_swap]
 have e2 : sm (fun j=>sm (fun c=>en (invM M).1 i c*(en M c j*toF (y.getD j 0))) M.length) M.length=sm (fun c=>dl i c*toF (y.getD c 0)) M.length :=
  sm_congr _ fun c hc=>by
   rw [← invM_mul hM hr hi hc,← sm_mulr]
   exact sm_congr _ fun j _=>by rw [F8.mul_assoc]
 rw [e2]
 exact sm_dl2 _ hi
/-- Nodes' numbers differ. -/
theorem nodeX_inj {i j : Nat} (hi : i < 14) (hj : j < 14) (h : nodeX i=nodeX j) : i=j:=by
 have key : ∀ i : Fin 14,∀ j : Fin 14,nodeX i.1=nodeX j.1→i.1=j.1:=by decide +kernel
 exact key ⟨i,hi⟩ ⟨j,hj⟩ h
theorem shortR_getD {a j i : Nat} (h : i < a) : (shortR a j).getD i 0=pow (nodeX j) i:=by
 unfold shortR
 rw [List.getD_eq_getElem?_getD,List.getElem?_map,List.getElem?_range h]
 rfl
theorem msrRow_en {a p j : Nat} (h : j < 2*a) : toF ((msrRow a p).getD j 0)=(toF (nodeX p)).pw j:=by
 unfold msrRow
 rw [getD_app,shortR_length]
 by_cases c : j < a
 ·rw [if_pos c,shortR_getD c,toF_pow (nodeX_byte p)]
 ·rw [if_neg c,getD_scale,shortR_getD (by omega),toF_mul (Byte.pow (nodeX_byte p) a) (Byte.pow (nodeX_byte p) _),toF_pow (nodeX_byte p),toF_pow (nodeX_byte p),← F8.pw_add]
  congr 1
  omega
/-- Rows of different nodes, as many as they are long, have an inverse. -/
theorem msrRows_rank {a : Nat} (p : List Nat) (hp : p.length=2*a) (h14 : ∀ i,i < p.length→p.getD i 0 < 14) (hd : ∀ i j,i < p.length→j < p.length→p.getD i 0=p.getD j 0→i=j) : (rowI.red (p.map (msrRow a)) (2*a)).2=2*a:=by
 have hl : (p.map (msrRow a)).length=2*a:=by rw [List.length_map,hp]
 refine rank_full (fun r hr=>?_) fun z hz=>?_
 ·obtain ⟨x,_,rfl⟩:=List.mem_map.1 hr
  exact ⟨msrRow_bytes a x,msrRow_length a x⟩
 ·rw [hl] at hz
  refine vander (x:=fun i=>toF (nodeX (p.getD i 0))) ?_ ?_
  ·intro i j hi hj e
   exact hd i j (by omega) (by omega) (nodeX_inj (h14 i (by omega)) (h14 j (by omega)) (toF_inj (nodeX_byte _) (nodeX_byte _) e))
  ·intro i hi
   rw [← hz i hi]
   refine sm_congr _ fun j hj=>?_
   unfold en
   rw [List.getD_eq_getElem?_getD (l:=p.map (msrRow a)),List.getElem?_map,List.getElem?_eq_getElem (by omega : i < p.length)]
   show _=toF ((msrRow a p[i]).getD j 0)*z j
   rw [msrRow_en hj,List.getD_eq_getElem?_getD,List.getElem?_eq_getElem (by omega : i < p.length)]
   rfl
theorem plc_sym (a r j : Nat) (hr : r < a) (hj : j < a) : plc a r j=plc a j r∧plc a (a+r) j=plc a (a+j) r:=by
 unfold plc
 rw [Nat.mod_eq_of_lt hr,Nat.mod_eq_of_lt hj,Nat.div_eq_of_lt hr,Nat.div_eq_of_lt hj,Nat.add_mod_left,Nat.add_mod_left,Nat.mod_eq_of_lt hr,Nat.mod_eq_of_lt hj,Nat.add_div_left _ (by omega),Nat.add_div_left _ (by omega),Nat.div_eq_of_lt hr,Nat.div_eq_of_lt hj,Nat.min_comm j r,Nat.max_comm j r]
 exact ⟨rfl,rfl⟩
theorem msgM_en {a : Nat} (D : List Int) {r j : Nat} (hr : r < 2*a) (hj : j < a) : en (msgM a D) r j=toF (D.getD (plc a r j) 0):=by
 unfold en msgM
 rw [tab_get2 hr hj]
theorem msgM_okI (a : Nat) {D : List Int} (h : Bytes D) : ∀ r ∈ msgM a D,okI a r:=tab_okI fun _ _ _ _=>bytes_getD h _
theorem tab_row0 {n m : Nat} {f : Nat→Nat→Int} (h : 0 < n) : ((tab n m f).getD 0 []).length=m:=tab_getD_length h
theorem trM_okI {a : Nat} (h1 : 1≤a) {D : List Int} (h : Bytes D) : (trM (msgM a D)).length=a∧∀ r ∈ trM (msgM a D),okI (2*a) r:=by
 have e : trM (msgM a D)=tab a (2*a) fun j i=>((msgM a D).getD i []).getD j 0:=by
  unfold trM
  rw [show ((msgM a D).getD 0 []).length=a from tab_row0 (by omega),show (msgM a D).length=2*a from tab_length _ _ _]
 rw [e]
 refine ⟨tab_length _ _ _,tab_okI fun j _ i _=>?_⟩
 by_cases c : i < (msgM a D).length
 ·exact bytes_getD (rowM_ok (msgM_okI a h) c).1 _
 ·rw [show (msgM a D).getD i []=[] by rw [List.getD_eq_getElem?_getD,List.getElem?_eq_none (by omega)];rfl]
  exact .zero
theorem trM_en {a : Nat} (h1 : 1≤a) (D : List Int) {j r : Nat} (hj : j < a) (hr : r < 2*a) : en (trM (msgM a D)) j r=en (msgM a D) r j:=by
 have e : trM (msgM a D)=tab a (2*a) fun j i=>((msgM a D).getD i []).getD j 0:=by
  unfold trM
  rw [show ((msgM a D).getD 0 []).length=a from tab_row0 (by omega),show (msgM a D).length=2*a from tab_length _ _ _]
 rw [e]
 unfold en
 rw [tab_get2 hj hr]
/-- The help of a node: its row against what the lost node's powers make of the message. -/
theorem help_dot {a : Nat} (h1 : 1≤a) {D : List Int} (hD : Bytes D) (p L : Nat) : dotV (applyM (trM (msgM a D)) (msrRow a p)) (shortR a L)=dotV (msrRow a p) (applyM (msgM a D) (shortR a L)):=by
 obtain ⟨t1,t2⟩:=trM_okI h1 hD
 have m1:=msgM_okI a hD
 have ml : (msgM a D).length=2*a:=tab_length _ _ _
 have bp : Bytes (applyM (trM (msgM a D)) (msrRow a p)):=applyM_bytes (fun r hr=>(t2 r hr).1) _
 have by' : Bytes (applyM (msgM a D) (shortR a L)):=applyM_bytes (fun r hr=>(m1 r hr).1) _
 refine toF_inj (dotV_byte bp) (dotV_byte (msrRow_bytes a p)) ?_
 rw [toF_dot _ _ bp (shortR_bytes a L) (by rw [applyM_length,t1,shortR_length]),toF_dot _ _ (msrRow_bytes a p) by' (by rw [applyM_length,ml,msrRow_length]),applyM_length,t1,msrRow_length]
 have e1 : sm (fun j=>toF ((applyM (trM (msgM a D)) (msrRow a p)).getD j 0)*toF ((shortR a L).getD j 0)) a=sm (fun j=>sm (fun r=>en (msgM a D) r j*toF ((msrRow a p).getD r 0)*toF ((shortR a L).getD j 0)) (2*a)) a :=
  sm_congr _ fun j hj=>by
   rw [toF_apply t2 (msrRow_bytes a p) (msrRow_length a p) (by omega),← sm_mulr]
   exact sm_congr _ fun r hr=>by rw [trM_en h1 D hj hr]
 rw [e1,sm_swap]
 refine sm_congr _ fun r hr=>?_
 rw [toF_apply m1 (shortR_bytes a L) (shortR_length a L) (by omega),← sm_mul]
 refine sm_congr _ fun j _=>?_
 rw [F8.mul_comm (en (msgM a D) r j) (toF ((msrRow a p).getD r 0)),F8.mul_assoc]
/-- The lost piece out of what its powers make of the message. -/
theorem piece_back {a : Nat} (h1 : 1≤a) {D : List Int} (hD : Bytes D) (L : Nat) : addV ((applyM (msgM a D) (shortR a L)).take a) (scale (pow (nodeX L) a) ((applyM (msgM a D) (shortR a L)).drop a))=applyM (trM (msgM a D)) (msrRow a L):=by
 obtain ⟨t1,t2⟩:=trM_okI h1 hD
 have m1:=msgM_okI a hD
 have ml : (msgM a D).length=2*a:=tab_length _ _ _
 have hyb : Bytes (applyM (msgM a D) (shortR a L)):=applyM_bytes (fun r hr=>(m1 r hr).1) _
 have hyl : (applyM (msgM a D) (shortR a L)).length=2*a:=by rw [applyM_length,ml]
 have l1 : ((applyM (msgM a D) (shortR a L)).take a).length=a:=by rw [List.length_take];omega
 have l2 : (scale (pow (nodeX L) a) ((applyM (msgM a D) (shortR a L)).drop a)).length=a:=by rw [scale_length,List.length_drop];omega
 refine list_same (by rw [addV_length,l1,l2,applyM_length,t1];omega) fun j hj=>?_
 rw [addV_length,l1,l2] at hj
 have hj : j < a:=by omega
 have bx:=Byte.pow (nodeX_byte L) a
 have e1 : ((applyM (msgM a D) (shortR a L)).take a).getD j 0=(applyM (msgM a D) (shortR a L)).getD j 0:=by
  rw [List.getD_eq_getElem?_getD,List.getElem?_take_of_lt hj,List.getD_eq_getElem?_getD]
 have e2 : ((applyM (msgM a D) (shortR a L)).drop a).getD j 0=(applyM (msgM a D) (shortR a L)).getD (a+j) 0:=by
  rw [List.getD_eq_getElem?_getD,List.getElem?_drop,List.getD_eq_getElem?_getD]
 rw [getD_addV (by rw [l1,l2]),getD_scale,e1,e2]
 have b1:=bytes_getD hyb j
 have b2:=bytes_getD hyb (a+j)
 refine toF_inj (b1.gx (bx.mul _)) (bytes_getD (applyM_bytes (fun r hr=>(t2 r hr).1) _) j) ?_
 rw [toF_gx b1 (bx.mul _),toF_mul bx b2,toF_apply t2 (msrRow_bytes a L) (msrRow_length a L) (by omega),toF_apply m1 (shortR_bytes a L) (shortR_length a L) (by omega),toF_apply m1 (shortR_bytes a L) (shortR_length a L) (by omega),show 2*a=a+a by omega,sm_split,← sm_mul]
 refine congr (congrArg _ ?_) ?_
 ·refine sm_congr _ fun r hr=>?_
  rw [trM_en h1 D hj (by omega),msgM_en D (by omega) hr,msgM_en D (by omega) hj,(plc_sym a r j hr hj).1,msrRow_en (by omega),shortR_getD hr,toF_pow (nodeX_byte L)]
 ·refine sm_congr _ fun r hr=>?_
  rw [trM_en h1 D hj (by omega),msgM_en D (by omega) hr,msgM_en D (by omega) hj,(plc_sym a r j hr hj).2,msrRow_en (by omega),shortR_getD hr,toF_pow (nodeX_byte L),toF_pow (nodeX_byte L),F8.pw_add,← F8.mul_assoc,← F8.mul_assoc,F8.mul_comm ((toF (nodeX L)).pw a)]
end

theorem impl_Times.ev_l0 (b : Nat) (hb : b < 256) : ∀ (n i o x : Nat),i+n=8→o < 256→x < 256 →
  Ev (fun k=>impl_Times.l0 k (b : Int) (o : Int) (i : Int) (x : Int)) ((T n o x (b / 2 ^ i) : Nat) : Int)
 | 0,i,o,x,hi,ho,hx=>by
  refine Ev.step (fun k=>impl_Times.l0.eq_2 _ _ _ _ k) ?_
  refine ev_neg (by omega) (ev_now ?_)
  simp only [T]
  omega
 | n+1,i,o,x,hi,ho,hx=>by
  refine Ev.step (fun k=>impl_Times.l0.eq_2 _ _ _ _ k) ?_
  refine ev_pos (by omega) (ev_pos (by omega) ?_)
  have e1 : shr .u8 (b : Int) (i : Int)=((b / 2 ^ i : Nat) : Int):=by
   unfold shr
   rw [Nat.min_eq_left (by simp only [IntKind.bits];omega)]
   simp
  have hd : b / 2 ^ i < 256:=Nat.lt_of_le_of_lt (Nat.div_le_self _ _) hb
  have e2 : wrap64 ((x : Int)*2)=((2*x : Nat) : Int):=by rw [wrap_id (by omega) (by omega)];omega
  have e3 : wrap64 ((i : Int)+1)=((i+1 : Nat) : Int):=by rw [wrap_id (by omega) (by omega)];omega
  rw [e1,and1_u8 hd,e2,e3]
  have e4 : Go.bits .xor .i64 (o : Int) (x : Int)=((o ^^^ x : Nat) : Int):=xor_i64 (by omega) (by omega)
  have e5 : Go.bits .xor .i64 ((2*x : Nat) : Int) 283=((2*x ^^^ 283 : Nat) : Int):=xor_i64 (m:=2*x) (n:=283) (by omega) (by omega)
  have e6 : b / 2 ^ i / 2=b / 2 ^ (i+1):=by rw [Nat.div_div_eq_div_mul,Nat.pow_succ]
  rw [e4,e5]
  have hT : T (n+1) o x (b / 2 ^ i)=T n (if b / 2 ^ i % 2=1 then o ^^^ x else o) (xt x) (b / 2 ^ (i+1)):=by rw [T,e6]
  rw [hT]
  have hxt:=xt_lt hx
  have hox:=xor_lt ho hx
  by_cases h1 : b / 2 ^ i % 2=1
  ·rw [if_pos h1]
   refine ev_pos (by omega) ?_
   by_cases h2 : 2*x > 255
   ·refine ev_pos (by omega) ?_
    have : xt x=2*x ^^^ 283:=by unfold xt;rw [if_pos h2]
    rw [this] at hxt ⊢
    exact impl_Times.ev_l0 b hb n (i+1) _ _ (by omega) hox hxt
   ·refine ev_neg (by omega) ?_
    have : xt x=2*x:=by unfold xt;rw [if_neg h2]
    rw [this] at hxt ⊢
    exact impl_Times.ev_l0 b hb n (i+1) _ _ (by omega) hox hxt
  ·rw [if_neg h1]
   refine ev_neg (by omega) ?_
   by_cases h2 : 2*x > 255
   ·refine ev_pos (by omega) ?_
    have : xt x=2*x ^^^ 283:=by unfold xt;rw [if_pos h2]
    rw [this] at hxt ⊢
    exact impl_Times.ev_l0 b hb n (i+1) _ _ (by omega) ho hxt
   ·refine ev_neg (by omega) ?_
    have : xt x=2*x:=by unfold xt;rw [if_neg h2]
    rw [this] at hxt ⊢
    exact impl_Times.ev_l0 b hb n (i+1) _ _ (by omega) ho hxt
theorem impl_Times.ev {a b : Int} (ha : Byte a) (hb : Byte b) : Ev (fun k=>impl_Times.f k a b) (mul a b):=by
 obtain ⟨m,hm,rfl⟩:=ha.nat
 obtain ⟨n,hn,rfl⟩:=hb.nat
 unfold impl_Times.f
 rw [wrap_id (by omega) (by omega)]
 have h:=impl_Times.ev_l0 n hn 8 0 0 m rfl (by decide) hm
 exact ev_eq h (by unfold Gf.mul gm;simp)

theorem impl_power.ev_l0 : ∀ (N n : Nat) (a o : Int),n≤N→n < 4294967296→Byte a→Byte o→Ev (fun k=>impl_power.l0 k a (n : Int) o) (mul o (pow a n)):=by
 intro N
 induction N with
 | zero =>
  intro n a o hN hn ha ho
  obtain rfl : n=0:=by omega
  refine Ev.step (fun k=>impl_power.l0.eq_2 _ _ _ k) ?_
  exact ev_neg (by omega) (ev_now (by rw [pow_zero,mul_one ho]))
 | succ N ih =>
  intro n a o hN hn ha ho
  refine Ev.step (fun k=>impl_power.l0.eq_2 _ _ _ k) ?_
  by_cases h0 : n=0
  ·subst h0
   exact ev_neg (by omega) (ev_now (by rw [pow_zero,mul_one ho]))
  refine ev_pos (by omega) ?_
  have e : ((n : Int) / 2)=((n / 2 : Nat) : Int):=by omega
  have haa:=Byte.mul ha a
  have hsq : pow (mul a a) (n / 2)=pow a (2*(n / 2)):=by rw [pow_mul ha,pow_two ha]
  rw [and1_i64 hn,e]
  by_cases h1 : n % 2=1
  ·refine ev_pos (by omega) ?_
   refine ev_bind (impl_Times.ev ho ha) (ev_bind (impl_Times.ev ha ha) ?_)
   refine ev_eq (ih (n / 2) _ _ (by omega) (by omega) haa (Byte.mul ho a)) ?_
   have hn2 : n=1+2*(n / 2):=by omega
   rw [hsq,mul_assoc ho ha (Byte.pow ha _)]
   conv=>rhs;rw [hn2,pow_add ha,pow_one ha]
  ·refine ev_neg (by omega) ?_
   refine ev_bind (impl_Times.ev ha ha) ?_
   refine ev_eq (ih (n / 2) _ _ (by omega) (by omega) haa ho) ?_
   have hn2 : n=2*(n / 2):=by omega
   rw [hsq,← hn2]
theorem impl_power.ev {a : Int} (ha : Byte a) (n : Nat) (hn : n < 4294967296) : Ev (fun k=>impl_power.f k a (n : Int)) (pow a n):=by
 unfold impl_power.f
 refine ev_eq (impl_power.ev_l0 n n a 1 (Nat.le_refl _) hn ha .one) ?_
 exact one_mul (Byte.pow ha n)

theorem spec_l1In.ev (a b c : Int) : spec_l1In.f a b c=some (decide (b≤a∧a≤c)):=by
 unfold spec_l1In.f
 by_cases h : a ≥ b
 ·rw [if_pos h];simp [h]
 ·rw [if_neg h];simp;omega

theorem spec_GoodMsr.ev (n k : Int) : spec_GoodMsr.f n k=some (decide (GoodMsr n k)):=by
 unfold spec_GoodMsr.f
 simp only [spec_l1In.ev,Option.bind_some,decide_eq_true_eq]
 by_cases h : 2≤k∧k≤4
 ·have e : wrap64 (wrap64 (2*k) - 1)=2*k - 1:=by unfold wrap64;omega
  simp [h,e]
 ·simp [h]

theorem spec_l1Scale.ev_l0 (a : Int) (ha : Byte a) (v : List Int) (hv : Bytes v) (hs : v.length < 140737488355328) : ∀ (n i : Nat) (o : List Int),i+n=v.length→o=(scale a v).take i →
  Ev (fun k=>spec_l1Scale.l0 k a o v (v.length : Int) (i : Int)) (scale a v)
 | 0,i,o,hi,ho=>by
  refine Ev.step (fun k=>spec_l1Scale.l0.eq_2 _ _ _ _ _ k) ?_
  refine ev_neg (by omega) (ev_now ?_)
  subst ho
  rw [List.take_of_length_le (by rw [scale_length];omega)]
 | n+1,i,o,hi,ho=>by
  have hz:=scale_length a v
  have hlen : o.length=i:=by rw [ho,List.length_take,hz];omega
  refine Ev.step (fun k=>spec_l1Scale.l0.eq_2 _ _ _ _ _ k) ?_
  refine ev_pos (by omega) (ev_pos (by omega) (ev_pos (by omega) ?_))
  refine ev_bind (spec_l1Times.ev ha (bytes_rd hv (by omega))) ?_
  refine ev_pos (by omega) ?_
  rw [inc (by omega),rd_get (by omega)]
  refine spec_l1Scale.ev_l0 a ha v hv hs n (i+1) _ (by omega) ?_
  rw [List.take_succ_eq_append_getElem (by omega),← ho]
  simp [scale]
theorem spec_l1Scale.ev {a : Int} (ha : Byte a) {v : List Int} (hv : Bytes v) (hs : v.length < 140737488355328) : Ev (fun k=>spec_l1Scale.f k a v) (scale a v):=by
 unfold spec_l1Scale.f
 exact spec_l1Scale.ev_l0 a ha v hv hs v.length 0 [] (by omega) rfl

theorem spec_l1Power.ev_l0 (a : Int) (ha : Byte a) : ∀ (n m : Nat),n < 4611686018427387904→Ev (fun k=>spec_l1Power.l0 k a (n : Int) (pow a m)) (pow a (m+n))
 | 0,m,_=>by
  refine Ev.step (fun k=>spec_l1Power.l0.eq_2 _ _ _ k) ?_
  exact ev_neg (by omega) (ev_now rfl)
 | n+1,m,hn=>by
  refine Ev.step (fun k=>spec_l1Power.l0.eq_2 _ _ _ k) ?_
  refine ev_pos (by omega) ?_
  refine ev_bind (spec_l1Times.ev (Byte.pow ha m) ha) ?_
  have e : wrap64 (((n+1 : Nat) : Int) - 1)=(n : Int):=by unfold wrap64;omega
  rw [e,← pow_succ]
  refine ev_eq (spec_l1Power.ev_l0 a ha n (m+1) (by omega)) ?_
  rw [Nat.add_right_comm,Nat.add_assoc]
theorem spec_l1Power.ev {a : Int} (ha : Byte a) (n : Nat) (hn : n < 4611686018427387904) : Ev (fun k=>spec_l1Power.f k a (n : Int)) (pow a n):=by
 unfold spec_l1Power.f
 have:=spec_l1Power.ev_l0 a ha n 0 hn
 rw [pow_zero,Nat.zero_add] at this
 exact this

theorem spec_l5X.ev (j : Nat) (hj : j < 4294967296) : Ev (fun k=>spec_l5X.f k (j : Int)) (nodeX j):=by
 unfold spec_l5X.f
 rw [inc (by omega)]
 exact ev_bind (spec_l1Power.ev byte3 (j+1) (by omega)) (ev_now rfl)

theorem spec_l5F.ev (n : Int) (a j : Nat) (ha : a≤3) (hj : j < 4294967296) : Ev (fun k=>spec_l5F.f k n ((a+1 : Nat) : Int) (j : Int)) (pow (nodeX j) a):=by
 unfold spec_l5F.f
 have e : wrap64 (((a+1 : Nat) : Int) - 1)=(a : Int):=by unfold wrap64;omega
 rw [e]
 exact ev_bind (spec_l5X.ev j hj) (ev_bind (spec_l1Power.ev (nodeX_byte j) a (by omega)) (ev_now rfl))

theorem spec_l5Short.ev_l0 (n : Int) (a j : Nat) (ha : a≤3) (hj : j < 4294967296) : ∀ (d i : Nat) (o : List Int),i+d=a→o=(shortR a j).take i →
  Ev (fun k=>spec_l5Short.l0 k (j : Int) o (i : Int) n ((a+1 : Nat) : Int)) (shortR a j)
 | 0,i,o,hi,ho=>by
  have e : wrap64 (((a+1 : Nat) : Int) - 1)=(a : Int):=by unfold wrap64;omega
  refine Ev.step (fun k=>spec_l5Short.l0.eq_2 _ _ _ _ _ k) ?_
  rw [e]
  refine ev_neg (by omega) (ev_now ?_)
  rw [ho,List.take_of_length_le (by rw [shortR_length];omega)]
 | d+1,i,o,hi,ho=>by
  have e : wrap64 (((a+1 : Nat) : Int) - 1)=(a : Int):=by unfold wrap64;omega
  have hl : o.length≤3:=by rw [ho,List.length_take,shortR_length];omega
  refine Ev.step (fun k=>spec_l5Short.l0.eq_2 _ _ _ _ _ k) ?_
  rw [e]
  refine ev_pos (by omega) ?_
  refine ev_bind (spec_l5X.ev j hj) (ev_bind (spec_l1Power.ev (nodeX_byte j) i (by omega)) (ev_pos (by omega) ?_))
  rw [inc (by omega)]
  exact spec_l5Short.ev_l0 n a j ha hj d (i+1) _ (by omega) (by rw [shortR_succ a j i (by omega),← ho])
theorem spec_l5Short.ev (n : Int) (a j : Nat) (ha : a≤3) (hj : j < 4294967296) : Ev (fun k=>spec_l5Short.f k n ((a+1 : Nat) : Int) (j : Int)) (shortR a j):=by
 unfold spec_l5Short.f
 exact spec_l5Short.ev_l0 n a j ha hj a 0 [] (by omega) rfl

theorem spec_l5Row.ev (n : Int) (a j : Nat) (ha : a≤3) (hj : j < 4294967296) : Ev (fun k=>spec_l5Row.f k n ((a+1 : Nat) : Int) (j : Int)) (msrRow a j):=by
 unfold spec_l5Row.f
 have hl:=shortR_length a j
 have hs:=scale_length (pow (nodeX j) a) (shortR a j)
 refine ev_bind (spec_l5Short.ev n a j ha hj) ?_
 simp only [Option.bind_some,List.nil_append,List.length_nil]
 refine ev_pos (by omega) ?_
 refine ev_bind (spec_l5F.ev n a j ha hj) (ev_bind (spec_l1Scale.ev (Byte.pow (nodeX_byte j) a) (shortR_bytes a j) (by omega)) (ev_pos (by omega) (ev_now rfl)))

def trPart (l : List (List Int)) (i j : Nat) : List (List Int):=tab (l.getD 0 []).length l.length fun a b=>if b < i∨b=i∧a < j then (l.getD b []).getD a 0 else 0
theorem trPart_next (l : List (List Int)) (i : Nat) : trPart l i (l.getD 0 []).length=trPart l (i+1) 0:=by
 apply tab_congr
 intro a ha b hb
 by_cases h : b < i∨b=i∧a < (l.getD 0 []).length
 ·rw [if_pos h,if_pos (by omega)]
 ·rw [if_neg h,if_neg (by omega)]
theorem spec_l2Transposed.ev_l1 (l : List (List Int)) (hg : goodM l=true) (i : Nat) (hi : i < l.length) {R : List (List Int)}
  (K : Ev (fun k=>spec_l2Transposed.l0 k l (l.length : Int) ((i+1 : Nat) : Int) (trPart l (i+1) 0)) R) : ∀ (d j : Nat),j+d=(l.getD 0 []).length →
  Ev (fun k=>spec_l2Transposed.l1 k (i : Int) l (l.length : Int) (i : Int) (l.getD i []) ((l.getD i []).length : Int) (j : Int) (trPart l i j)) R
 | 0,j,hj=>by
  have hf:=goodM_iff hg
  refine Ev.step (fun k=>spec_l2Transposed.l1.eq_2 _ _ _ _ _ _ _ _ k) ?_
  have e:=hf.2.2 i hi
  refine ev_neg (by omega) ?_
  rw [inc (by omega),show j=(l.getD 0 []).length by omega,trPart_next]
  exact K
 | d+1,j,hj=>by
  have hf:=goodM_iff hg
  have e:=hf.2.2 i hi
  have hlen : (trPart l i j).length=(l.getD 0 []).length:=tab_length _ _ _
  have hrow : ((trPart l i j).getD j []).length=l.length:=tab_getD_length (by omega)
  refine Ev.step (fun k=>spec_l2Transposed.l1.eq_2 _ _ _ _ _ _ _ _ k) ?_
  simp only [rdSS0,Int.toNat_natCast]
  refine ev_pos (by omega) (ev_pos (by omega) (ev_pos (by omega) (ev_pos (by omega) (ev_pos (by omega) (ev_pos (by omega) ?_)))))
  rw [inc (by omega)]
  have hs : (trPart l i j).set j (((trPart l i j).getD j []).set i (rd (l.getD i []) (j : Int)))=trPart l i (j+1):=by
   unfold trPart
   rw [tab_set (by omega)]
   apply tab_congr
   intro a ha b hb
   by_cases h : a=j∧b=i
   ·obtain ⟨rfl,rfl⟩:=h
    rw [if_pos ⟨rfl,rfl⟩,if_pos (by omega),rd_nat]
   ·rw [if_neg h]
    by_cases h2 : b < i∨b=i∧a < j
    ·rw [if_pos h2,if_pos (by omega)]
    ·rw [if_neg h2,if_neg (by omega)]
  rw [hs]
  exact spec_l2Transposed.ev_l1 l hg i hi K d (j+1) (by omega)
theorem spec_l2Transposed.ev_l0 (l : List (List Int)) (hg : goodM l=true) : ∀ (d i : Nat),i+d=l.length→Ev (fun k=>spec_l2Transposed.l0 k l (l.length : Int) (i : Int) (trPart l i 0)) (trM l)
 | 0,i,hi=>by
  refine Ev.step (fun k=>spec_l2Transposed.l0.eq_2 _ _ _ _ k) ?_
  refine ev_neg (by omega) (ev_now ?_)
  apply tab_congr
  intro a ha b hb
  rw [if_pos (by omega)]
 | d+1,i,hi=>by
  have ih:=spec_l2Transposed.ev_l0 l hg d (i+1) (by omega)
  have hf:=goodM_iff hg
  refine Ev.step (fun k=>spec_l2Transposed.l0.eq_2 _ _ _ _ k) ?_
  refine ev_pos (by omega) (ev_pos (by omega) (ev_pos (by omega) ?_))
  simp only [rdSS0,Int.toNat_natCast]
  exact spec_l2Transposed.ev_l1 l hg i (by omega) ih (l.getD 0 []).length 0 (by omega)
theorem spec_l2Transposed.ev (l : List (List Int)) (hg : goodM l=true) : Ev (fun k=>spec_l2Transposed.f k l) (trM l):=by
 have hf:=goodM_iff hg
 unfold spec_l2Transposed.f
 refine ev_pos (by omega) ?_
 simp only [rdSS0,Int.toNat_zero]
 refine ev_bind (spec_l2Blank.ev _ _ (by omega) (by omega)) ?_
 have e : blankM (l.getD 0 []).length l.length=trPart l 0 0:=by
  rw [tab_blank]
  apply tab_congr
  intro a ha b hb
  rw [if_neg (by omega)]
 rw [e]
 exact spec_l2Transposed.ev_l0 l hg l.length 0 (by omega)

theorem goodM_same {M : List (List Int)} {n : Nat} (hM : ∀ r ∈ M,r.length=n) (h1 : 1≤M.length) (h2 : M.length≤16) (h3 : 1≤n) (h4 : n≤16) : goodM M=true:=by
 have e : ∀ i,i < M.length→(M.getD i []).length=n:=fun i hi=>by
  rw [List.getD_eq_getElem?_getD,List.getElem?_eq_getElem hi]
  exact hM _ (List.getElem_mem hi)
 have e0:=e 0 (by omega)
 unfold goodM
 rw [e0]
 have : ((List.range M.length).any fun i=>(M.getD i []).length != n)=false:=by
  rw [List.any_eq_false]
  intro i hi
  rw [e i (List.mem_range.1 hi)]
  simp
 rw [this]
 simp [h1,h2,h3,h4]
theorem tab_mem {n m : Nat} {f : Nat→Nat→Int} : ∀ r ∈ tab n m f,r.length=m:=fun r hr=>by
 simp only [tab,List.mem_map] at hr
 obtain ⟨i,_,rfl⟩:=hr
 simp
theorem dotV_swap : ∀ (v w : List Int),Bytes v→Bytes w→dotV v w=dotV w v
 | [],[],_,_=>rfl
 | [],_ :: _,_,_=>rfl
 | _ :: _,[],_,_=>rfl
 | x :: v,y :: w,hv,hw=>by
  show gx (mul x y) (dotV v w)=gx (mul y x) (dotV w v)
  rw [mul_comm (hv x (by simp)) (hw y (by simp)),dotV_swap v w (fun z hz=>hv z (by simp [hz])) (fun z hz=>hw z (by simp [hz]))]
theorem trM_bytes {M : List (List Int)} (h : matBytes M) : matBytes (trM M):=tab_bytes fun _ _ _ _=>matBytes_get h _ _
theorem row_product {M : List (List Int)} {v : List Int} (hM : matBytes M) (hv : Bytes v) (hl : v.length=M.length) : (prodM [v] M).getD 0 []=applyM (trM M) v:=by
 have hb : matBytes [v]:=fun r hr=>by rw [List.mem_singleton.1 hr];exact hv
 unfold prodM
 rw [tab_getD (show 0 < [v].length by simp)]
 unfold applyM trM tab
 rw [List.map_map]
 apply List.map_congr_left
 intro j hj
 have e:=prodM_dot (a:=[v]) (b:=M) hb (i:=0) (j:=j) hl
 rw [← e]
 show dotV v _=dotV _ v
 refine dotV_swap _ _ hv (fun z hz=>?_)
 simp only [List.mem_map] at hz
 obtain ⟨i,_,rfl⟩:=hz
 exact matBytes_get hM _ _
abbrev Pc:=S76
def pieceAt (a : Nat) (D : List Int) (i : Nat) : Pc:=⟨(i : Int),applyM (trM (msgM a D)) (msrRow a i)⟩
def encL (m a : Nat) (D : List Int) : List Pc:=(List.range m).map (pieceAt a D)
theorem encL_length (m a : Nat) (D : List Int) : (encL m a D).length=m:=by simp [encL]
theorem encL_succ (m a : Nat) (D : List Int) (i : Nat) (h : i < m) : (encL m a D).take (i+1)=(encL m a D).take i ++ [pieceAt a D i]:=by
 rw [List.take_succ_eq_append_getElem (by rw [encL_length];exact h)]
 simp [encL]
theorem msgM_bytes (a : Nat) {D : List Int} (h : Bytes D) : matBytes (msgM a D):=tab_bytes fun _ _ _ _=>bytes_getD h _
theorem msgM_good {a : Nat} (h1 : 1≤a) (h3 : a≤3) (D : List Int) : goodM (msgM a D)=true:=goodM_same (n:=a) tab_mem (by unfold msgM;rw [tab_length];omega) (by unfold msgM;rw [tab_length];omega) h1 (by omega)
theorem msgM_length (a : Nat) (D : List Int) : (msgM a D).length=2*a:=tab_length _ _ _
theorem msgM_first {a : Nat} (h1 : 1≤a) (D : List Int) : ((msgM a D).getD 0 []).length=a:=tab_getD_length (by omega)
theorem trM_msg {a : Nat} (h1 : 1≤a) (D : List Int) : (trM (msgM a D)).length=a∧∀ r ∈ trM (msgM a D),r.length=2*a:=by
 unfold trM
 rw [msgM_first h1,msgM_length]
 exact ⟨tab_length _ _ _,tab_mem⟩
theorem pieceAt_length {a : Nat} (h1 : 1≤a) (D : List Int) (i : Nat) : (pieceAt a D i).f1.length=a:=(applyM_length _ _).trans (trM_msg h1 D).1
theorem spec_l5Encode.ev_l0 {a m : Nat} (h1 : 1≤a) (h3 : a≤3) (hm : m≤14) {D : List Int} (hb : Bytes D) : ∀ (d i : Nat),i+d=m→Ev (fun k=>spec_l5Encode.l0 k ((encL m a D).take i) (i : Int) (m : Int) ((a+1 : Nat) : Int) (trM (msgM a D))) (encL m a D)
 | 0,i,hi=>by
  have hz:=encL_length m a D
  refine Ev.step (fun k=>spec_l5Encode.l0.eq_2 _ _ _ _ _ k) ?_
  refine ev_neg (by omega) (ev_now ?_)
  rw [List.take_of_length_le (by omega)]
 | d+1,i,hi=>by
  have hz:=encL_length m a D
  have ht:=trM_msg h1 D
  have hr:=msrRow_length a i
  have htb:=trM_bytes (msgM_bytes a hb)
  refine Ev.step (fun k=>spec_l5Encode.l0.eq_2 _ _ _ _ _ k) ?_
  refine ev_pos (by omega) (ev_bind (spec_l5Row.ev _ a i h3 (by omega)) (ev_bind (spec_l2Apply.ev (msrRow_bytes a i) (by omega) (fun r hr2=>⟨htb r hr2,(ht.2 r hr2).trans hr.symm⟩) (by omega)) (ev_pos (by rw [List.length_take];omega) ?_)))
  rw [show (⟨(i : Int),applyM (trM (msgM a D)) (msrRow a i)⟩ : Pc)=pieceAt a D i from rfl,← encL_succ m a D i (by omega),inc (by omega)]
  exact spec_l5Encode.ev_l0 h1 h3 hm hb d (i+1) (by omega)
theorem spec_l5Encode.ev {a m : Nat} (h1 : 1≤a) (h3 : a≤3) (hm : m≤14) {D : List Int} (hb : Bytes D) (hl : D.length=a*(a+1)) : Ev (fun k=>spec_l5Encode.f k (m : Int) ((a+1 : Nat) : Int) D) (encL m a D):=by
 unfold spec_l5Encode.f
 exact ev_bind (spec_l5Message.ev _ h1 h3 hl) (ev_bind (spec_l2Transposed.ev _ (msgM_good h1 h3 D)) (spec_l5Encode.ev_l0 h1 h3 hm hb m 0 (by omega)))

def encVal (n k : Int) (D : List Int) : List Pc × Bool:=if GoodMsr n k∧(D.length : Int)=k*(k - 1) then (encL n.toNat (k.toNat - 1) D,true) else ([],false)
theorem enc_wrap {n k : Int} (h : GoodMsr n k) : wrap64 (k*(k - 1))=k*(k - 1):=by
 have : k=2∨k=3∨k=4:=by omega
 rcases this with rfl | rfl | rfl <;> (unfold wrap64;omega)
theorem enc_size {a : Nat} : ((a+1 : Nat) : Int)*(((a+1 : Nat) : Int) - 1)=((a*(a+1) : Nat) : Int):=by
 have e : ((a+1 : Nat) : Int) - 1=(a : Int):=by omega
 rw [e,← Int.natCast_mul,Nat.mul_comm]
theorem spec_EncodeMsr.ev (n k : Int) {D : List Int} (hb : Bytes D) : Ev (fun q=>spec_EncodeMsr.f q n k D) (encVal n k D):=by
 unfold spec_EncodeMsr.f encVal
 simp only [spec_GoodMsr.ev,Option.bind_some,decide_eq_true_eq]
 by_cases h : GoodMsr n k
 ·refine ev_pos h ?_
  obtain ⟨a,m,rfl,rfl,ha1,ha3,hm1,hm2⟩:=GoodMsr_nat h
  have e : wrap64 (((a+1 : Nat) : Int)*wrap64 (((a+1 : Nat) : Int) - 1))=((a*(a+1) : Nat) : Int):=by
   rw [show wrap64 (((a+1 : Nat) : Int) - 1)=((a+1 : Nat) : Int) - 1 by unfold wrap64;omega,enc_wrap h,enc_size]
  rw [e,enc_size]
  by_cases c : (D.length : Int)=((a*(a+1) : Nat) : Int)
  ·rw [if_pos ⟨h,c⟩]
   exact ev_pos c (ev_bind (spec_l5Encode.ev ha1 ha3 hm2 hb (by omega)) (ev_now rfl))
  ·rw [if_neg (fun z=>c z.2)]
   exact ev_neg c (ev_now rfl)
 ·rw [if_neg (fun z=>h z.1)]
  exact ev_neg h (ev_now rfl)

theorem impl_within.ev (a b c : Int) : impl_within.f a b c=some (decide (b≤a∧a≤c)):=by
 unfold impl_within.f
 by_cases h : a ≥ b
 ·rw [if_pos h];simp [h]
 ·rw [if_neg h];simp;omega

theorem impl_GoodMsr.ev (n k : Int) : impl_GoodMsr.f n k=some (decide (GoodMsr n k)):=by
 unfold impl_GoodMsr.f
 simp only [impl_within.ev,Option.bind_some,decide_eq_true_eq]
 by_cases h : 2≤k∧k≤4
 ·have e : wrap64 (wrap64 (2*k) - 1)=2*k - 1:=by unfold wrap64;omega
  simp [h,e]
 ·simp [h]

theorem impl_Msr_alpha.ev {n k : Int} (h : GoodMsr n k) : impl_Msr_alpha.f n k=some (k - 1):=by
 unfold impl_Msr_alpha.f
 have e : wrap64 (k - 1)=k - 1:=by unfold wrap64;omega
 rw [e]

theorem msr_size {n k : Int} (h : GoodMsr n k) : wrap64 (k*(k - 1))=k*(k - 1):=by
 have : k=2∨k=3∨k=4:=by omega
 rcases this with rfl | rfl | rfl <;> (unfold wrap64;omega)
theorem impl_Msr_size.ev {n k : Int} (h : GoodMsr n k) : impl_Msr_size.f n k=some (k*(k - 1)):=by
 unfold impl_Msr_size.f
 simp only [impl_Msr_alpha.ev h,Option.bind_some,msr_size h]

theorem impl_filled.ev_l1 {E : Nat→Int→Int→Option Int} (n m : Nat) (f : Nat→Nat→Int) (hm : m≤1048576) (i : Nat) (hE : ∀ j,j < m→Ev (fun k=>E k (i : Int) (j : Int)) (f i j)) (out : List (List Int)) (ho : out.length < 5864062014805) {R : List (List Int)}
  (K : Ev (fun k=>impl_filled.l0 E k (m : Int) (out ++ [(List.range m).map (f i)]) (n : Int) (wrap64 ((i : Int)+1))) R) : ∀ (d j : Nat) (o : List Int),j+d=m→o=(List.range j).map (f i) →
  Ev (fun k=>impl_filled.l1 E k (m : Int) out (i : Int) o (n : Int) (i : Int) (m : Int) (j : Int)) R
 | 0,j,o,hj,hoj=>by
  refine Ev.step (fun k=>impl_filled.l1.eq_2 _ _ _ _ _ _ _ _ _ k) ?_
  refine ev_neg (by omega) (ev_pos ho ?_)
  rw [hoj,show j=m by omega]
  exact K
 | d+1,j,o,hj,hoj=>by
  have hol : o.length=j:=by rw [hoj];simp
  refine Ev.step (fun k=>impl_filled.l1.eq_2 _ _ _ _ _ _ _ _ _ k) ?_
  refine ev_pos (by omega) (ev_bind (hE j (by omega)) (ev_pos (by omega) ?_))
  rw [inc (by omega)]
  refine impl_filled.ev_l1 n m f hm i hE out ho K d (j+1) _ (by omega) ?_
  rw [hoj,List.range_succ,List.map_append]
  rfl
theorem impl_filled.ev_l0 {E : Nat→Int→Int→Option Int} (n m : Nat) (f : Nat→Nat→Int) (hn : n≤1048576) (hm : m≤1048576) (hE : ∀ i,i < n→∀ j,j < m→Ev (fun k=>E k (i : Int) (j : Int)) (f i j)) : ∀ (d i : Nat) (o : List (List Int)),i+d=n→o=tab i m f →
  Ev (fun k=>impl_filled.l0 E k (m : Int) o (n : Int) (i : Int)) (tab n m f)
 | 0,i,o,hi,ho=>by
  refine Ev.step (fun k=>impl_filled.l0.eq_2 _ _ _ _ _ k) ?_
  refine ev_neg (by omega) (ev_now ?_)
  rw [ho,show i=n by omega]
 | d+1,i,o,hi,ho=>by
  have hol : o.length=i:=by rw [ho,tab_length]
  have ih:=impl_filled.ev_l0 n m f hn hm hE d (i+1) (o ++ [(List.range m).map (f i)]) (by omega) (by
   rw [ho]
   unfold tab
   rw [List.range_succ,List.map_append]
   rfl)
  refine Ev.step (fun k=>impl_filled.l0.eq_2 _ _ _ _ _ k) ?_
  refine ev_pos (by omega) ?_
  exact impl_filled.ev_l1 n m f hm i (hE i (by omega)) o (by omega) (by rw [inc (by omega)];exact ih) m 0 [] (by omega) rfl
theorem impl_filled.ev {E : Nat→Int→Int→Option Int} (n m : Nat) (f : Nat→Nat→Int) (hn : n≤1048576) (hm : m≤1048576) (hE : ∀ i,i < n→∀ j,j < m→Ev (fun k=>E k (i : Int) (j : Int)) (f i j)) : Ev (fun k=>impl_filled.f E k (n : Int) (m : Int)) (tab n m f):=by
 unfold impl_filled.f
 exact impl_filled.ev_l0 n m f hn hm hE n 0 [] (by omega) rfl

def placeM (a : Nat) : List (List Int):=tab (2*a) a fun r j=>(plc a r j : Int)
theorem impl_Msr_places.ev {n : Int} {a : Nat} (hg : GoodMsr n ((a+1 : Nat) : Int)) : Ev (fun k=>impl_Msr_places.f k n ((a+1 : Nat) : Int)) (placeM a):=by
 refine Ev.of (k:=60) (fun k=>impl_Msr_places.mono _ _ k) ?_
 unfold impl_Msr_places.f
 rw [impl_Msr_alpha.ev hg]
 simp only [Option.bind_some]
 have h : a=1∨a=2∨a=3:=by omega
 rcases h with rfl | rfl | rfl
 ·show _=_;kernel_rfl
 ·show _=_;kernel_rfl
 ·show _=_;kernel_rfl

theorem impl_Msr_message.ev {n : Int} {a : Nat} (hg : GoodMsr n ((a+1 : Nat) : Int)) {D : List Int} (hl : D.length=a*(a+1)) : Ev (fun k=>impl_Msr_message.f k n ((a+1 : Nat) : Int) D) (msgM a D):=by
 unfold impl_Msr_message.f
 refine ev_bind (impl_Msr_places.ev hg) ?_
 rw [impl_Msr_alpha.ev hg]
 simp only [Option.bind_some]
 have ha1 : 1≤a:=by omega
 have ha3 : a≤3:=by omega
 have e1 : wrap64 (2*(((a+1 : Nat) : Int) - 1))=((2*a : Nat) : Int):=by unfold wrap64;omega
 have e2 : (((a+1 : Nat) : Int) - 1)=(a : Int):=by omega
 rw [e1,e2]
 refine impl_filled.ev (2*a) a (fun r j=>D.getD (plc a r j) 0) (by omega) (by omega) (fun i hi j hj=>?_)
 have hr : rd_II (placeM a) (i : Int)=(List.range a).map fun j=>(plc a i j : Int):=by
  unfold rd_II
  rw [Int.toNat_natCast]
  exact tab_getD hi
 have hv : rd ((List.range a).map fun j=>(plc a i j : Int)) (j : Int)=(plc a i j : Int):=by
  rw [rd_nat]
  simp [List.getD,hj]
 have hp:=plc_lt ha1 ha3 hi hj
 unfold impl_Msr_message.E
 rw [hr,hv]
 refine ev_pos ⟨⟨by omega,?_⟩,⟨by omega,?_⟩,by omega,by omega⟩ (ev_now (rd_nat _ _))
 ·unfold placeM
  rw [tab_length]
  omega
 ·rw [List.length_map,List.length_range]
  omega

theorem impl_dot.ev_l0 (v w : List Int) (hv : Bytes v) (hw : Bytes w) (hl : v.length=w.length) (hs : v.length < 140737488355328) : ∀ (n i : Nat) (o : Int),i+n=v.length→Byte o →
  Ev (fun k=>impl_dot.l0 k w o v (v.length : Int) (i : Int)) (gx o (dotV (v.drop i) (w.drop i)))
 | 0,i,o,hi,ho=>by
  refine Ev.step (fun k=>impl_dot.l0.eq_2 _ _ _ _ _ k) ?_
  refine ev_neg (by omega) (ev_now ?_)
  rw [List.drop_of_length_le (by omega)]
  exact (gx_zero ho).symm
 | n+1,i,o,hi,ho=>by
  refine Ev.step (fun k=>impl_dot.l0.eq_2 _ _ _ _ _ k) ?_
  refine ev_pos (by omega) (ev_pos (by omega) (ev_pos (by omega) (ev_pos (by omega) ?_)))
  have bv : Byte (rd v (i : Int)):=bytes_rd hv (by omega)
  have bw : Byte (rd w (i : Int)):=bytes_rd hw (by omega)
  refine ev_bind (impl_Times.ev bv bw) ?_
  have bm:=Byte.mul bv (rd w (i : Int))
  have bg:=Byte.gx ho bm
  rw [inc (by omega),xor_u8 ho bm]
  refine ev_eq (impl_dot.ev_l0 v w hv hw hl hs n (i+1) _ (by omega) bg) ?_
  rw [drop_cons (l:=v) (i:=i) (by omega),drop_cons (l:=w) (i:=i) (by omega),rd_get (by omega),rd_get (by omega),dotV,gx_assoc]
theorem impl_dot.ev {v w : List Int} (hv : Bytes v) (hw : Bytes w) (hl : v.length=w.length) (hs : v.length < 140737488355328) : Ev (fun k=>impl_dot.f k v w) (dotV v w):=by
 unfold impl_dot.f
 refine ev_eq (impl_dot.ev_l0 v w hv hw hl hs v.length 0 0 (by omega) .zero) ?_
 exact zero_gx (dotV_byte hv)

theorem impl_column.ev_l0 (l : List (List Int)) (c j : Nat) (hl : l.length≤1048576) (hj : j < c) (hc : ∀ i,i < l.length→(l.getD i []).length=c) : ∀ (d i : Nat) (o : List Int),i+d=l.length→o=(List.range i).map (fun b=>(l.getD b []).getD j 0) →
  Ev (fun k=>impl_column.l0 k (j : Int) o l (l.length : Int) (i : Int)) ((List.range l.length).map fun b=>(l.getD b []).getD j 0)
 | 0,i,o,hi,ho=>by
  refine Ev.step (fun k=>impl_column.l0.eq_2 _ _ _ _ _ k) ?_
  refine ev_neg (by omega) (ev_now ?_)
  rw [ho,show i=l.length by omega]
 | d+1,i,o,hi,ho=>by
  have e:=hc i (by omega)
  have hol : o.length=i:=by rw [ho];simp
  refine Ev.step (fun k=>impl_column.l0.eq_2 _ _ _ _ _ k) ?_
  simp only [rdSS0,Int.toNat_natCast]
  refine ev_pos (by omega) (ev_pos (by omega) (ev_pos (by omega) (ev_pos (by omega) (ev_pos (by omega) (ev_pos (by omega) ?_)))))
  rw [inc (by omega)]
  refine impl_column.ev_l0 l c j hl hj hc d (i+1) _ (by omega) ?_
  rw [ho,List.range_succ,List.map_append,rd_nat]
  rfl
theorem impl_column.ev (l : List (List Int)) (c j : Nat) (hl : l.length≤1048576) (hj : j < c) (hc : ∀ i,i < l.length→(l.getD i []).length=c) : Ev (fun k=>impl_column.f k l (j : Int)) ((List.range l.length).map fun b=>(l.getD b []).getD j 0):=by
 unfold impl_column.f
 exact impl_column.ev_l0 l c j hl hj hc l.length 0 [] (by omega) rfl

theorem impl_transposed.ev_l0 (l : List (List Int)) (hg : goodM l=true) : ∀ (d j : Nat) (o : List (List Int)),j+d=(l.getD 0 []).length→o=tab j l.length (fun j i=>(l.getD i []).getD j 0) →
  Ev (fun k=>impl_transposed.l0 k l o ((l.getD 0 []).length : Int) (j : Int)) (trM l)
 | 0,j,o,hj,ho=>by
  refine Ev.step (fun k=>impl_transposed.l0.eq_2 _ _ _ _ k) ?_
  refine ev_neg (by omega) (ev_now ?_)
  rw [ho,show j=(l.getD 0 []).length by omega]
  rfl
 | d+1,j,o,hj,ho=>by
  have hf:=goodM_iff hg
  have hol : o.length=j:=by rw [ho,tab_length]
  refine Ev.step (fun k=>impl_transposed.l0.eq_2 _ _ _ _ k) ?_
  refine ev_pos (by omega) (ev_bind (impl_column.ev l _ j (by omega) (by omega) hf.2.2) (ev_pos (by omega) ?_))
  rw [inc (by omega)]
  refine impl_transposed.ev_l0 l hg d (j+1) _ (by omega) ?_
  rw [ho]
  unfold tab
  rw [List.range_succ,List.map_append]
  rfl
theorem impl_transposed.ev (l : List (List Int)) (hg : goodM l=true) : Ev (fun k=>impl_transposed.f k l) (trM l):=by
 have hf:=goodM_iff hg
 unfold impl_transposed.f
 refine ev_pos (by omega) ?_
 simp only [rdSS0,Int.toNat_zero]
 exact impl_transposed.ev_l0 l hg (l.getD 0 []).length 0 [] (by omega) rfl

theorem impl_product.ev_l1 (a b : List (List Int)) (ha : matBytes a) (hb : matBytes b) (hg : goodM a=true) (hg2 : goodM b=true) (hp : (a.getD 0 []).length=b.length) (i : Nat) (hi : i < a.length) (out : List (List Int)) (ho : out.length < 5864062014805) {R : List (List Int)}
  (K : Ev (fun q=>impl_product.l0 q (trM b) (out ++ [(List.range (b.getD 0 []).length).map fun j=>prodAt a b i j b.length]) a (a.length : Int) (wrap64 ((i : Int)+1))) R) : ∀ (d j : Nat) (o : List Int),j+d=(b.getD 0 []).length→o=(List.range j).map (fun j=>prodAt a b i j b.length) →
  Ev (fun q=>impl_product.l1 q (trM b) out (a.getD i []) o a (a.length : Int) (i : Int) (trM b) ((trM b).length : Int) (j : Int)) R
 | 0,j,o,hj,hoj=>by
  have hl : (trM b).length=(b.getD 0 []).length:=tab_length _ _ _
  refine Ev.step (fun q=>impl_product.l1.eq_2 _ _ _ _ _ _ _ _ _ _ q) ?_
  refine ev_neg (by omega) (ev_pos ho ?_)
  rw [hoj,show j=(b.getD 0 []).length by omega]
  exact K
 | d+1,j,o,hj,hoj=>by
  have hl : (trM b).length=(b.getD 0 []).length:=tab_length _ _ _
  have hf:=goodM_iff hg2
  have hf1:=goodM_iff hg
  have e:=hf1.2.2 i hi
  have hol : o.length=j:=by rw [hoj];simp
  have hrow : (trM b).getD j []=(List.range b.length).map fun k=>(b.getD k []).getD j 0:=tab_getD (by omega)
  refine Ev.step (fun q=>impl_product.l1.eq_2 _ _ _ _ _ _ _ _ _ _ q) ?_
  simp only [rdSS0,Int.toNat_natCast]
  refine ev_pos (by omega) (ev_pos (by omega) (ev_pos (by omega) ?_))
  rw [hrow]
  have hd:=impl_dot.ev (v:=a.getD i []) (w:=(List.range b.length).map fun k=>(b.getD k []).getD j 0) (matBytes_row ha i) (fun z hz=>by
   simp only [List.mem_map] at hz
   obtain ⟨k,_,rfl⟩:=hz
   exact matBytes_get hb k j) (by rw [List.length_map,List.length_range];omega) (by omega)
  rw [prodM_dot ha (by omega)] at hd
  refine ev_bind hd (ev_pos (by omega) ?_)
  rw [inc (by omega)]
  refine impl_product.ev_l1 a b ha hb hg hg2 hp i hi out ho K d (j+1) _ (by omega) ?_
  rw [hoj,List.range_succ,List.map_append]
  rfl
theorem impl_product.ev_l0 (a b : List (List Int)) (ha : matBytes a) (hb : matBytes b) (hg : goodM a=true) (hg2 : goodM b=true) (hp : (a.getD 0 []).length=b.length) : ∀ (d i : Nat) (o : List (List Int)),i+d=a.length→o=tab i (b.getD 0 []).length (fun i j=>prodAt a b i j b.length) →
  Ev (fun q=>impl_product.l0 q (trM b) o a (a.length : Int) (i : Int)) (prodM a b)
 | 0,i,o,hi,ho=>by
  refine Ev.step (fun q=>impl_product.l0.eq_2 _ _ _ _ _ q) ?_
  refine ev_neg (by omega) (ev_now ?_)
  rw [ho,show i=a.length by omega]
  rfl
 | d+1,i,o,hi,ho=>by
  have hf1:=goodM_iff hg
  have hol : o.length=i:=by rw [ho,tab_length]
  have ih:=impl_product.ev_l0 a b ha hb hg hg2 hp d (i+1) (o ++ [(List.range (b.getD 0 []).length).map fun j=>prodAt a b i j b.length]) (by omega) (by
   rw [ho]
   unfold tab
   rw [List.range_succ,List.map_append]
   rfl)
  refine Ev.step (fun q=>impl_product.l0.eq_2 _ _ _ _ _ q) ?_
  simp only [rdSS0,Int.toNat_natCast]
  refine ev_pos (by omega) (ev_pos (by omega) (ev_pos (by omega) ?_))
  exact impl_product.ev_l1 a b ha hb hg hg2 hp i (by omega) o (by omega) (by rw [inc (by omega)];exact ih) (b.getD 0 []).length 0 [] (by omega) rfl
theorem impl_product.ev (a b : List (List Int)) (ha : matBytes a) (hb : matBytes b) (hg : goodM a=true) (hg2 : goodM b=true) (hp : (a.getD 0 []).length=b.length) : Ev (fun q=>impl_product.f q a b) (prodM a b):=by
 unfold impl_product.f
 refine ev_bind (impl_transposed.ev b hg2) ?_
 exact impl_product.ev_l0 a b ha hb hg hg2 hp a.length 0 [] (by omega) rfl

theorem impl_Msr_powers.ev_l0 {n : Int} (a j : Nat) (hg : GoodMsr n ((a+1 : Nat) : Int)) : ∀ (d i : Nat) (o : List Int),i+d=a→o=(shortR a j).take i →
  Ev (fun k=>impl_Msr_powers.l0 k (nodeX j) o (a : Int) (i : Int) n ((a+1 : Nat) : Int)) (shortR a j,pow (nodeX j) a)
 | 0,i,o,hi,ho=>by
  have e : ((a+1 : Nat) : Int) - 1=(a : Int):=by omega
  refine Ev.step (fun k=>impl_Msr_powers.l0.eq_2 _ _ _ _ _ _ k) ?_
  refine ev_neg (by omega) ?_
  simp only [impl_Msr_alpha.ev hg,Option.bind_some,e]
  refine ev_bind (impl_power.ev (nodeX_byte j) a (by omega)) (ev_now ?_)
  rw [ho,List.take_of_length_le (by rw [shortR_length];omega)]
 | d+1,i,o,hi,ho=>by
  have hl : o.length≤3:=by rw [ho,List.length_take,shortR_length];omega
  refine Ev.step (fun k=>impl_Msr_powers.l0.eq_2 _ _ _ _ _ _ k) ?_
  refine ev_pos (by omega) ?_
  refine ev_bind (impl_power.ev (nodeX_byte j) i (by omega)) (ev_pos (by omega) ?_)
  rw [inc (by omega)]
  exact impl_Msr_powers.ev_l0 a j hg d (i+1) _ (by omega) (by rw [shortR_succ a j i (by omega),← ho])
theorem impl_Msr_powers.ev {n : Int} (a j : Nat) (hg : GoodMsr n ((a+1 : Nat) : Int)) (hj : j < 1000000) : Ev (fun k=>impl_Msr_powers.f k n ((a+1 : Nat) : Int) (j : Int)) (shortR a j,pow (nodeX j) a):=by
 unfold impl_Msr_powers.f
 have e : ((a+1 : Nat) : Int) - 1=(a : Int):=by omega
 rw [inc (by omega)]
 refine ev_bind (impl_power.ev byte3 (j+1) (by omega)) ?_
 simp only [impl_Msr_alpha.ev hg,Option.bind_some,e]
 exact impl_Msr_powers.ev_l0 a j hg a 0 [] (by omega) rfl

theorem impl_scaled.ev_l0 (a : Int) (ha : Byte a) (v : List Int) (hv : Bytes v) (hs : v.length < 140737488355328) : ∀ (n i : Nat) (o : List Int),i+n=v.length→o=(scale a v).take i →
  Ev (fun k=>impl_scaled.l0 k a o v (v.length : Int) (i : Int)) (scale a v)
 | 0,i,o,hi,ho=>by
  refine Ev.step (fun k=>impl_scaled.l0.eq_2 _ _ _ _ _ k) ?_
  refine ev_neg (by omega) (ev_now ?_)
  subst ho
  rw [List.take_of_length_le (by rw [scale_length];omega)]
 | n+1,i,o,hi,ho=>by
  have hz:=scale_length a v
  have hlen : o.length=i:=by rw [ho,List.length_take,hz];omega
  refine Ev.step (fun k=>impl_scaled.l0.eq_2 _ _ _ _ _ k) ?_
  refine ev_pos (by omega) (ev_pos (by omega) (ev_pos (by omega) ?_))
  refine ev_bind (impl_Times.ev ha (bytes_rd hv (by omega))) ?_
  refine ev_pos (by omega) ?_
  rw [inc (by omega),rd_get (by omega)]
  refine impl_scaled.ev_l0 a ha v hv hs n (i+1) _ (by omega) ?_
  rw [List.take_succ_eq_append_getElem (by omega),← ho]
  simp [scale]
theorem impl_scaled.ev {a : Int} (ha : Byte a) {v : List Int} (hv : Bytes v) (hs : v.length < 140737488355328) : Ev (fun k=>impl_scaled.f k a v) (scale a v):=by
 unfold impl_scaled.f
 exact impl_scaled.ev_l0 a ha v hv hs v.length 0 [] (by omega) rfl

theorem impl_Msr_row.ev {n : Int} (a j : Nat) (hg : GoodMsr n ((a+1 : Nat) : Int)) (hj : j < 1000000) : Ev (fun k=>impl_Msr_row.f k n ((a+1 : Nat) : Int) (j : Int)) (msrRow a j):=by
 unfold impl_Msr_row.f
 have hl:=shortR_length a j
 have hs:=scale_length (pow (nodeX j) a) (shortR a j)
 refine ev_bind (impl_Msr_powers.ev a j hg hj) ?_
 dsimp only
 exact ev_bind (impl_scaled.ev (Byte.pow (nodeX_byte j) a) (shortR_bytes a j) (by omega)) (ev_pos (by omega) (ev_now rfl))

theorem impl_EncodeMsr.ev_l0 {a m : Nat} (hg : GoodMsr (m : Int) ((a+1 : Nat) : Int)) {D : List Int} (hb : Bytes D) : ∀ (d i : Nat),i+d=m→Ev (fun k=>impl_EncodeMsr.l0 k (msgM a D) ((encL m a D).take i) (m : Int) (i : Int) (m : Int) ((a+1 : Nat) : Int)) (encL m a D,true)
 | 0,i,hi=>by
  have hz:=encL_length m a D
  refine Ev.step (fun k=>impl_EncodeMsr.l0.eq_2 _ _ _ _ _ _ k) ?_
  refine ev_neg (by omega) (ev_now ?_)
  rw [List.take_of_length_le (by omega)]
 | d+1,i,hi=>by
  have hz:=encL_length m a D
  have h1 : 1≤a:=by omega
  have h3 : a≤3:=by omega
  have hr:=msrRow_length a i
  have hrb:=msrRow_bytes a i
  have hml:=msgM_length a D
  have hgr : goodM [msrRow a i]=true:=goodM_same (n:=2*a) (fun r hr2=>by rw [List.mem_singleton.1 hr2];exact hr) (by simp) (by simp) (by omega) (by omega)
  have hp : (prodM [msrRow a i] (msgM a D)).length=1:=tab_length _ _ _
  refine Ev.step (fun k=>impl_EncodeMsr.l0.eq_2 _ _ _ _ _ _ k) ?_
  refine ev_pos (by omega) (ev_bind (impl_Msr_row.ev a i hg (by omega)) (ev_bind (impl_product.ev [msrRow a i] (msgM a D) (fun r hr2=>by rw [List.mem_singleton.1 hr2];exact hrb) (msgM_bytes a hb) hgr (msgM_good h1 h3 D) (hr.trans hml.symm)) (ev_pos (by omega) (ev_pos (by rw [List.length_take];omega) ?_))))
  rw [row_product (msgM_bytes a hb) hrb (hr.trans hml.symm),show (⟨(i : Int),applyM (trM (msgM a D)) (msrRow a i)⟩ : Pc)=pieceAt a D i from rfl,← encL_succ m a D i (by omega),inc (by omega)]
  exact impl_EncodeMsr.ev_l0 hg hb d (i+1) (by omega)
theorem impl_EncodeMsr.ev (n k : Int) {D : List Int} (hb : Bytes D) : Ev (fun q=>impl_EncodeMsr.f q n k D) (encVal n k D):=by
 unfold impl_EncodeMsr.f encVal
 simp only [impl_GoodMsr.ev,Option.bind_some,decide_eq_true_eq]
 by_cases h : GoodMsr n k
 ·refine ev_pos h ?_
  obtain ⟨a,m,rfl,rfl,ha1,ha3,hm1,hm2⟩:=GoodMsr_nat h
  simp only [impl_Msr_size.ev h,Option.bind_some]
  rw [enc_size]
  refine Ev.step (fun k=>impl_EncodeMsr.j0.eq_2 _ _ _ _ k) ?_
  by_cases c : (D.length : Int)=((a*(a+1) : Nat) : Int)
  ·rw [if_pos ⟨h,c⟩]
   refine ev_neg (by simp [c]) (ev_bind (impl_Msr_message.ev h (by omega)) ?_)
   exact impl_EncodeMsr.ev_l0 h hb m 0 (by omega)
  ·rw [if_neg (fun z=>c z.2)]
   exact ev_pos (bne_iff_ne.2 c) (ev_now rfl)
 ·rw [if_neg (fun z=>h z.1)]
  refine ev_neg h ?_
  refine Ev.step (fun k=>impl_EncodeMsr.j0.eq_2 _ _ _ _ k) ?_
  exact ev_pos rfl (ev_now rfl)

theorem laws_numberOf.some_l0 (l : List Int) (hl : l.length≤9223372036854775807) : ∀ (n i : Nat) (x : Int),i+n=l.length→∃ t,Ev (fun k=>laws_numberOf.l0 k x l (l.length : Int) (i : Int)) t
 | 0,i,x,hi=>by
  refine ⟨x,Ev.step (fun k=>laws_numberOf.l0.eq_2 _ _ _ _ k) ?_⟩
  exact ev_neg (by omega) (ev_now rfl)
 | n+1,i,x,hi=>by
  obtain ⟨t,ht⟩:=laws_numberOf.some_l0 l hl n (i+1) (Int.tmod (wrap64 ((wrap64 (31*x))+(wrap64 (rd l (i : Int))))) 1000003) (by omega)
  refine ⟨t,Ev.step (fun k=>laws_numberOf.l0.eq_2 _ _ _ _ k) ?_⟩
  refine ev_pos (by omega) (ev_pos (by omega) (ev_pos (by omega) ?_))
  rw [show wrap64 ((i : Int)+1)=((i+1 : Nat) : Int) by rw [wrap_id (by omega) (by omega)];omega]
  exact ht
theorem laws_numberOf.some_ (l : List Int) (hl : l.length≤9223372036854775807) : ∃ t,Ev (fun k=>laws_numberOf.f k l) t:=laws_numberOf.some_l0 l hl l.length 0 0 (by omega)
theorem laws_numberOf.pos_l0 (l : List Int) (hl : l.length≤9223372036854775807) (hb : Bytes l) : ∀ (n i : Nat) (x : Int),i+n=l.length→0≤x→x < 1000003→∃ t,Ev (fun k=>laws_numberOf.l0 k x l (l.length : Int) (i : Int)) t∧0≤t∧t < 1000003
 | 0,i,x,hi,h0,h1=>by
  refine ⟨x,Ev.step (fun k=>laws_numberOf.l0.eq_2 _ _ _ _ k) ?_,h0,h1⟩
  exact ev_neg (by omega) (ev_now rfl)
 | n+1,i,x,hi,h0,h1=>by
  have hx:=bytes_rd hb (show i < l.length by omega)
  have e : wrap64 ((wrap64 (31*x))+(wrap64 (rd l (i : Int))))=31*x+rd l (i : Int):=by
   have h2:=hx.1
   have h3:=hx.2
   rw [wrap_id (i:=31*x) (by omega) (by omega),wrap_id (i:=rd l (i : Int)) (by omega) (by omega),wrap_id (by omega) (by omega)]
  obtain ⟨t,ht,h2,h3⟩:=laws_numberOf.pos_l0 l hl hb n (i+1) (Int.tmod (wrap64 ((wrap64 (31*x))+(wrap64 (rd l (i : Int))))) 1000003) (by omega) (by rw [e];have:=hx.1;exact Int.tmod_nonneg _ (by omega)) (Int.tmod_lt_of_pos _ (by decide))
  refine ⟨t,Ev.step (fun k=>laws_numberOf.l0.eq_2 _ _ _ _ k) ?_,h2,h3⟩
  refine ev_pos (by omega) (ev_pos (by omega) (ev_pos (by omega) ?_))
  rw [show wrap64 ((i : Int)+1)=((i+1 : Nat) : Int) by rw [wrap_id (by omega) (by omega)];omega]
  exact ht
theorem laws_numberOf.pos_ (l : List Int) (hl : l.length≤9223372036854775807) (hb : Bytes l) : ∃ t,Ev (fun k=>laws_numberOf.f k l) t∧0≤t∧t < 1000003:=laws_numberOf.pos_l0 l hl hb l.length 0 0 (by omega) (by decide) (by decide)

theorem wrap_id' {i : Int} (h : -9223372036854775808≤i) (h1 : i < 9223372036854775808) : wrap64 i=i:=by unfold wrap64;omega
theorem laws_someOf.some_l0 (n least : Nat) (more : List Int) (hn : n≤1000) (hl : least≤n) : ∀ (d i : Nat) (o : List Int),i+d=n→upTo i o→o.length≤i→least≤o.length+d →
  ∃ t,Ev (fun k=>laws_someOf.l0 k (n : Int) (least : Int) more o (i : Int)) t∧upTo n t∧least≤t.length
 | 0,i,o,hi,ho,hol,hc=>by
  refine ⟨o,?_,upTo_more ho (by omega),by omega⟩
  refine Ev.step (fun k=>laws_someOf.l0.eq_2 _ _ _ _ _ k) ?_
  exact ev_neg (by omega) (ev_now rfl)
 | d+1,i,o,hi,ho,hol,hc=>by
  have w1 : wrap64 ((n : Int) - (i : Int))=(n : Int) - (i : Int):=wrap_id' (by omega) (by omega)
  have w2 : wrap64 ((least : Int) - (o.length : Int))=(least : Int) - (o.length : Int):=wrap_id' (by omega) (by omega)
  have hs : (o ++ [(i : Int)]).length=o.length+1:=by simp
  have yes : ∃ t,Ev (fun k=>laws_someOf.l0 k (n : Int) (least : Int) more (o ++ [(i : Int)]) (wrap64 ((i : Int)+1))) t∧upTo n t∧least≤t.length:=by
   rw [inc (by omega)]
   exact laws_someOf.some_l0 n least more hn hl d (i+1) (o ++ [(i : Int)]) (by omega) (upTo_snoc ho) (by omega) (by omega)
  by_cases c2 : (n : Int) - (i : Int)≤(least : Int) - (o.length : Int)
  ·obtain ⟨t,e,h2,h3⟩:=yes
   refine ⟨t,?_,h2,h3⟩
   refine Ev.step (fun k=>laws_someOf.l0.eq_2 _ _ _ _ _ k) ?_
   rw [w1,w2]
   refine ev_pos (by omega) ?_
   by_cases c1 : (i : Int) < (more.length : Int)
   ·exact ev_pos c1 (ev_pos (by omega) (ev_pos c2 (ev_pos (by omega) e)))
   ·exact ev_neg c1 (ev_pos c2 (ev_pos (by omega) e))
  ·by_cases c1 : (i : Int) < (more.length : Int)
   ·by_cases c3 : Int.tmod (wrap64 (rd more (i : Int))) 2=0
    ·obtain ⟨t,e,h2,h3⟩:=yes
     refine ⟨t,?_,h2,h3⟩
     refine Ev.step (fun k=>laws_someOf.l0.eq_2 _ _ _ _ _ k) ?_
     rw [w1,w2]
     exact ev_pos (by omega) (ev_pos c1 (ev_pos (by omega) (ev_neg c2 (ev_pos c3 (ev_pos (by omega) e)))))
    ·obtain ⟨t,e,h2,h3⟩:=laws_someOf.some_l0 n least more hn hl d (i+1) o (by omega) (upTo_more ho (by omega)) (by omega) (by omega)
     refine ⟨t,?_,h2,h3⟩
     refine Ev.step (fun k=>laws_someOf.l0.eq_2 _ _ _ _ _ k) ?_
     rw [w1,w2]
     refine ev_pos (by omega) (ev_pos c1 (ev_pos (by omega) (ev_neg c2 (ev_neg c3 ?_))))
     rw [inc (by omega)]
     exact e
   ·obtain ⟨t,e,h2,h3⟩:=yes
    refine ⟨t,?_,h2,h3⟩
    refine Ev.step (fun k=>laws_someOf.l0.eq_2 _ _ _ _ _ k) ?_
    rw [w1,w2]
    exact ev_pos (by omega) (ev_neg c1 (ev_neg c2 (ev_pos (by decide) (ev_pos (by omega) e))))
theorem laws_someOf.some_ (n least : Nat) (more : List Int) (hn : n≤1000) (hl : least≤n) : ∃ t,Ev (fun k=>laws_someOf.f k (n : Int) (least : Int) more) t∧upTo n t∧least≤t.length :=
 laws_someOf.some_l0 n least more hn hl n 0 [] (by omega) (upTo_nil 0) (by simp) (by simpa using hl)

theorem spec_l1Cur_msr.some_ {s : List Int} (hs : Bytes s) {a z : Int} (h0 : 0≤a) (h1 : a≤4611686018427380000) : ∃ n k b z',spec_l1Cur_msr.f s a z=some (n,k,b,z')∧(0≤n∧n≤17)∧(0≤k∧k≤6)∧a≤b∧b≤a+10:=by
 obtain ⟨x,b1,z1,e1,hx0,hx1,p0,p1⟩:=spec_l1Cur_pick.some_ hs (a:=a) (z:=z) (n:=3) h0 (by omega) (by decide)
 obtain ⟨y,b2,z2,e2,hy0,hy1,q0,q1⟩:=spec_l1Cur_pick.some_ hs (a:=b1) (z:=z1) (n:=4) (by omega) (by omega) (by decide)
 obtain ⟨u,b3,z3,e3,r0,r1⟩:=spec_l1Cur_one.some_ hs (a:=b2) (z:=z2) (n:=20) (by omega) (by omega) (by decide)
 unfold spec_l1Cur_msr.f
 rw [e1]
 simp only [Option.bind_some]
 rw [e2]
 simp only [Option.bind_some]
 rw [e3]
 simp only [Option.bind_some]
 by_cases c : u=true
 ·obtain ⟨n,b4,z4,e4,hn0,hn1,s0,s1⟩:=spec_l1Cur_pick.some_ hs (a:=b3) (z:=z3) (n:=17) (by omega) (by omega) (by decide)
  obtain ⟨k,b5,z5,e5,hk0,hk1,t0,t1⟩:=spec_l1Cur_pick.some_ hs (a:=b4) (z:=z4) (n:=7) (by omega) (by omega) (by decide)
  rw [if_pos c,e4]
  simp only [Option.bind_some]
  rw [e5]
  exact ⟨n,k,b5,z5,rfl,⟨hn0,by omega⟩,⟨hk0,by omega⟩,by omega,by omega⟩
 ·rw [if_neg c]
  refine ⟨_,_,b3,z3,rfl,?_,?_,by omega,by omega⟩
  ·have w1 : wrap64 (2+x)=2+x:=wrap_id (by omega) (by omega)
   have w2 : wrap64 (2*(2+x))=2*(2+x):=wrap_id (by omega) (by omega)
   have w3 : wrap64 (2*(2+x) - 1)=2*(2+x) - 1:=wrap_id (by omega) (by omega)
   have w4 : wrap64 (2*(2+x) - 1+y)=2*(2+x) - 1+y:=wrap_id (by omega) (by omega)
   rw [w1,w2,w3,w4]
   omega
  ·rw [wrap_id (by omega) (by omega)]
   omega
theorem small_kk {k : Int} (h0 : 0≤k) (h1 : k≤6) : wrap64 (k*(wrap64 (k - 1)))=k*(k - 1)∧0≤k*(k - 1)∧k*(k - 1)≤30:=by
 have h : k=0∨k=1∨k=2∨k=3∨k=4∨k=5∨k=6:=by omega
 rcases h with rfl | rfl | rfl | rfl | rfl | rfl | rfl <;> (unfold wrap64;omega)

theorem spec_DrawEncodeMsr.some_j1 {s : List Int} (hs : Bytes s) {a z : Int} (h0 : 0≤a) (h1 : a≤4611686018427370000) (c : Int) (hc0 : 0≤c) (hc : c≤100) (n k : Int) : ∃ D b z',Ev (fun q=>spec_DrawEncodeMsr.j1 q c s a z n k) (n,k,D,b,z')∧Bytes D∧D.length≤100:=by
 obtain ⟨i,rfl⟩:=Int.eq_ofNat_of_zero_le hc0
 obtain ⟨D,b,z',e,hD,hl,_,_⟩:=spec_l1Cur_vector.some_n hs (z:=z) i (by omega) h0 h1
 refine ⟨D,b,z',Ev.step (fun q=>spec_DrawEncodeMsr.j1.eq_2 _ _ _ _ _ _ q) ?_,hD,by omega⟩
 exact ev_bind e (ev_now rfl)
theorem spec_DrawEncodeMsr.some_j0 {s : List Int} (hs : Bytes s) {a z : Int} (h0 : 0≤a) (h1 : a≤4611686018427360000) (c : Int) (hc0 : 0≤c) (hc : c≤100) (n k : Int) (x : Bool) : ∃ D b z',Ev (fun q=>spec_DrawEncodeMsr.j0 q c x s a z n k) (n,k,D,b,z')∧Bytes D∧D.length≤100:=by
 by_cases hx : x=true
 ·obtain ⟨t,b,z1,e,ht0,ht1,q0,q1⟩:=spec_l1Cur_pick.some_ hs (a:=a) (z:=z) (n:=9) h0 (by omega) (by decide)
  obtain ⟨D,b2,z2,e2,hD,hl⟩:=spec_DrawEncodeMsr.some_j1 hs (a:=b) (z:=z1) (by omega) (by omega) t ht0 (by omega) n k
  refine ⟨D,b2,z2,Ev.step (fun q=>spec_DrawEncodeMsr.j0.eq_2 _ _ _ _ _ _ _ q) (ev_pos hx ?_),hD,hl⟩
  rw [e]
  exact e2
 ·obtain ⟨D,b2,z2,e2,hD,hl⟩:=spec_DrawEncodeMsr.some_j1 hs (a:=a) (z:=z) h0 (by omega) c hc0 hc n k
  exact ⟨D,b2,z2,Ev.step (fun q=>spec_DrawEncodeMsr.j0.eq_2 _ _ _ _ _ _ _ q) (ev_neg hx e2),hD,hl⟩
theorem spec_DrawEncodeMsr.some_ {s : List Int} (hs : Bytes s) : ∃ n k D,Ev (fun q=>spec_DrawEncodeMsr.f q s) (n,k,D)∧Bytes D∧D.length≤100:=by
 obtain ⟨n,k,b,z1,e,hn,hk,hb0,hb1⟩:=spec_l1Cur_msr.some_ hs (a:=0) (z:=0) (by decide) (by decide)
 obtain ⟨u,b2,z2,e2,r0,r1⟩:=spec_l1Cur_one.some_ hs (a:=b) (z:=z1) (n:=12) (by omega) (by omega) (by decide)
 obtain ⟨w1,w2,w3⟩:=small_kk hk.1 hk.2
 have key:=fun x=>spec_DrawEncodeMsr.some_j0 hs (a:=b2) (z:=z2) (by omega) (by omega) (k*(k - 1)) w2 (by omega) n k x
 have main : ∃ D b' z',Ev (fun q=>spec_DrawEncodeMsr.g q s 0 0) (n,k,D,b',z')∧Bytes D∧D.length≤100:=by
  unfold spec_DrawEncodeMsr.g
  rw [e]
  simp only [Option.bind_some]
  rw [e2]
  simp only [Option.bind_some]
  rw [w1]
  by_cases c : u=true
  ·obtain ⟨D,b',z',h1,h2,h3⟩:=key true
   exact ⟨D,b',z',ev_pos c h1,h2,h3⟩
  ·obtain ⟨D,b',z',h1,h2,h3⟩:=key (decide (k*(k - 1) < 0))
   exact ⟨D,b',z',ev_neg c h1,h2,h3⟩
 obtain ⟨D,b',z',h1,h2,h3⟩:=main
 exact ⟨n,k,D,ev_bind h1 (ev_now rfl),h2,h3⟩

theorem laws_sameBytes.ev (l : List Int) : laws_sameBytes.f l l=some true:=by
 unfold laws_sameBytes.f
 rw [beq_self_eq_true]

theorem impl_Msr_isPiece.ev {n k : Int} (hg : GoodMsr n k) (x : Int) (l : List Int) : impl_Msr_isPiece.f n k x l=some (decide (0≤x∧x≤n - 1∧(l.length : Int)=k - 1)):=by
 unfold impl_Msr_isPiece.f
 have e : wrap64 (n - 1)=n - 1:=by unfold wrap64;omega
 simp only [impl_within.ev,impl_Msr_alpha.ev hg,Option.bind_some,decide_eq_true_eq,e]
 by_cases h : 0≤x∧x≤n - 1
 ·rw [if_pos h];by_cases h2 : (l.length : Int)=k - 1 <;> simp [h,h2]
 ·rw [if_neg h];simp;omega

theorem impl_Msr_isNode.ev (n k j : Int) : impl_Msr_isNode.f n k j=some (decide (GoodMsr n k∧0≤j∧j≤n - 1)):=by
 unfold impl_Msr_isNode.f
 simp only [impl_GoodMsr.ev,impl_within.ev,Option.bind_some,decide_eq_true_eq]
 by_cases h : GoodMsr n k
 ·have e : wrap64 (n - 1)=n - 1:=by unfold wrap64;omega
  rw [if_pos h,e]
  simp [h]
 ·rw [if_neg h]
  simp [h]

theorem spec_l5Piece.ev {n k : Int} (hg : GoodMsr n k) (x : Int) (l : List Int) : spec_l5Piece.f n k x l=some (decide (0≤x∧x≤n - 1∧(l.length : Int)=k - 1)):=by
 unfold spec_l5Piece.f
 have e : wrap64 (n - 1)=n - 1:=by unfold wrap64;omega
 have e2 : wrap64 (k - 1)=k - 1:=by unfold wrap64;omega
 simp only [spec_l1In.ev,Option.bind_some,decide_eq_true_eq,e,e2]
 by_cases h : 0≤x∧x≤n - 1
 ·rw [if_pos h];by_cases h2 : (l.length : Int)=k - 1 <;> simp [h,h2]
 ·rw [if_neg h];simp;omega

def helpVal (n k x : Int) (l : List Int) (j : Int) : Int × Int × Bool :=
 if GoodMsr n k∧(0≤x∧x≤n - 1∧(l.length : Int)=k - 1)∧(0≤j∧j≤n - 1)∧j ≠ x then (x,dotV l (shortR (k - 1).toNat j.toNat),true) else (0,0,false)
theorem helpVal_no {n k x : Int} {l : List Int} {j : Int} (h : ¬ (GoodMsr n k∧(0≤x∧x≤n - 1∧(l.length : Int)=k - 1)∧(0≤j∧j≤n - 1)∧j ≠ x)) : helpVal n k x l j=(0,0,false):=if_neg h
theorem spec_HelpFor.ev_no (j x : Int) (n k : Int) (l : List Int) : Ev (fun q=>spec_HelpFor.j0 q j true n k x l) (0,0,false) :=
 Ev.step (fun q=>spec_HelpFor.j0.eq_2 _ _ _ _ _ _ q) (ev_pos rfl (ev_now rfl))
theorem spec_HelpFor.ev (n k x : Int) {l : List Int} (hl : Bytes l) (j : Int) : Ev (fun q=>spec_HelpFor.f q n k x l j) (helpVal n k x l j):=by
 unfold spec_HelpFor.f
 simp only [spec_GoodMsr.ev,spec_l1In.ev,Option.bind_some,decide_eq_true_eq]
 by_cases h : GoodMsr n k
 ·refine ev_pos h ?_
  simp only [spec_l5Piece.ev h,Option.bind_some,decide_eq_true_eq]
  have e : wrap64 (n - 1)=n - 1:=by unfold wrap64;omega
  rw [e]
  by_cases h1 : 0≤x∧x≤n - 1∧(l.length : Int)=k - 1
  ·refine ev_pos h1 ?_
   by_cases h2 : 0≤j∧j≤n - 1
   ·refine ev_pos h2 ?_
    by_cases h3 : j=x
    ·have : (j == x)=true:=by simpa using h3
     rw [this]
     exact ev_eq (spec_HelpFor.ev_no _ _ _ _ _) (helpVal_no (fun z=>z.2.2.2 h3)).symm
    ·have : (j == x)=false:=by simpa using h3
     rw [this]
     refine Ev.step (fun q=>spec_HelpFor.j0.eq_2 _ _ _ _ _ _ q) (ev_neg (by simp) ?_)
     unfold helpVal
     rw [if_pos ⟨h,h1,h2,h3⟩]
     obtain ⟨a,m,rfl,rfl,h4⟩:=GoodMsr_nat h
     obtain ⟨i,rfl⟩:=Int.eq_ofNat_of_zero_le h2.1
     have ea : (((a+1 : Nat) : Int) - 1).toNat=a:=by omega
     rw [ea,Int.toNat_natCast]
     refine ev_bind (spec_l5Short.ev _ a i (by omega) (by omega)) ?_
     exact ev_bind (spec_l1Dot.ev hl (shortR_bytes a i) (by rw [shortR_length];omega) (by omega)) (ev_now rfl)
   ·exact ev_neg h2 (ev_eq (spec_HelpFor.ev_no _ _ _ _ _) (helpVal_no (fun z=>h2 z.2.2.1)).symm)
  ·exact ev_neg h1 (ev_eq (spec_HelpFor.ev_no _ _ _ _ _) (helpVal_no (fun z=>h1 z.2.1)).symm)
 ·exact ev_neg h (ev_eq (spec_HelpFor.ev_no _ _ _ _ _) (helpVal_no (fun z=>h z.1)).symm)

theorem impl_HelpFor.ev_no (j x : Int) (n k : Int) (l : List Int) : Ev (fun q=>impl_HelpFor.j0 q j true n k x l) (0,0,false) :=
 Ev.step (fun q=>impl_HelpFor.j0.eq_2 _ _ _ _ _ _ q) (ev_pos rfl (ev_now rfl))
theorem impl_HelpFor.ev (n k x : Int) {l : List Int} (hl : Bytes l) (j : Int) : Ev (fun q=>impl_HelpFor.f q n k x l j) (helpVal n k x l j):=by
 unfold impl_HelpFor.f
 simp only [impl_Msr_isNode.ev,Option.bind_some,decide_eq_true_eq]
 by_cases h : GoodMsr n k∧0≤j∧j≤n - 1
 ·refine ev_pos h ?_
  obtain ⟨h,h2⟩:=h
  simp only [impl_Msr_isPiece.ev h,Option.bind_some,decide_eq_true_eq]
  by_cases h1 : 0≤x∧x≤n - 1∧(l.length : Int)=k - 1
  ·refine ev_pos h1 ?_
   by_cases h3 : j=x
   ·have : (x == j)=true:=by simpa using h3.symm
    rw [this]
    exact ev_eq (impl_HelpFor.ev_no _ _ _ _ _) (helpVal_no (fun z=>z.2.2.2 h3)).symm
   ·have : (x == j)=false:=by simpa using fun z : x=j=>h3 z.symm
    rw [this]
    refine Ev.step (fun q=>impl_HelpFor.j0.eq_2 _ _ _ _ _ _ q) (ev_neg (by simp) ?_)
    unfold helpVal
    rw [if_pos ⟨h,h1,h2,h3⟩]
    obtain ⟨a,m,rfl,rfl,h4⟩:=GoodMsr_nat h
    obtain ⟨i,rfl⟩:=Int.eq_ofNat_of_zero_le h2.1
    have ea : (((a+1 : Nat) : Int) - 1).toNat=a:=by omega
    rw [ea,Int.toNat_natCast]
    refine ev_bind (impl_Msr_powers.ev a i h (by omega)) ?_
    exact ev_bind (impl_dot.ev hl (shortR_bytes a i) (by rw [shortR_length];omega) (by omega)) (ev_now rfl)
  ·exact ev_neg h1 (ev_eq (impl_HelpFor.ev_no _ _ _ _ _) (helpVal_no (fun z=>h1 z.2.1)).symm)
 ·exact ev_neg h (ev_eq (impl_HelpFor.ev_no _ _ _ _ _) (helpVal_no (fun z=>h ⟨z.1,z.2.2.1⟩)).symm)

theorem impl_identity.ev_l0 (n : Nat) (hn : n≤1048576) : ∀ (d i : Nat) (o : List (List Int)),i+d=n→o=(idM n).take i→Ev (fun k=>impl_identity.l0 k (n : Int) o (n : Int) (i : Int)) (idM n)
 | 0,i,o,hi,ho=>by
  refine Ev.step (fun k=>impl_identity.l0.eq_2 _ _ _ _ k) ?_
  refine ev_neg (by omega) (ev_now ?_)
  rw [ho,List.take_of_length_le (by simp [idM];omega)]
 | d+1,i,o,hi,ho=>by
  have hl : o.length=i:=by rw [ho,List.length_take];simp [idM];omega
  refine Ev.step (fun k=>impl_identity.l0.eq_2 _ _ _ _ k) ?_
  simp only [Option.bind_some,Int.toNat_natCast,List.length_replicate]
  refine ev_pos (by omega) (ev_pos (by omega) (ev_pos (by omega) (ev_pos (by omega) (ev_pos (by omega) (ev_pos (by omega) ?_)))))
  rw [inc (by omega)]
  refine impl_identity.ev_l0 n hn d (i+1) _ (by omega) ?_
  rw [List.take_succ_eq_append_getElem (by simp [idM];omega),← ho]
  simp [idM]
theorem impl_identity.ev (n : Nat) (hn : n≤1048576) : Ev (fun k=>impl_identity.f k (n : Int)) (idM n):=by
 unfold impl_identity.f
 exact impl_identity.ev_l0 n hn n 0 [] (by omega) rfl

theorem impl_added.ev_l0 (v w : List Int) (hv : Bytes v) (hw : Bytes w) (hl : v.length=w.length) (hs : v.length < 140737488355328) : ∀ (n i : Nat) (o : List Int),i+n=v.length→o=(addV v w).take i →
  Ev (fun k=>impl_added.l0 k w o v (v.length : Int) (i : Int)) (addV v w)
 | 0,i,o,hi,ho=>by
  refine Ev.step (fun k=>impl_added.l0.eq_2 _ _ _ _ _ k) ?_
  refine ev_neg (by omega) (ev_now ?_)
  subst ho
  rw [List.take_of_length_le (by rw [addV_length];omega)]
 | n+1,i,o,hi,ho=>by
  have hz:=addV_length v w
  have hlen : o.length=i:=by rw [ho,List.length_take,hz];omega
  refine Ev.step (fun k=>impl_added.l0.eq_2 _ _ _ _ _ k) ?_
  refine ev_pos (by omega) (ev_pos (by omega) (ev_pos (by omega) (ev_pos (by omega) (ev_pos (by omega) ?_))))
  rw [inc (by omega),xor_u8 (bytes_rd hv (by omega)) (bytes_rd hw (by omega)),rd_get (by omega),rd_get (by omega)]
  refine impl_added.ev_l0 v w hv hw hl hs n (i+1) _ (by omega) ?_
  rw [List.take_succ_eq_append_getElem (by omega),← ho]
  simp [addV]
theorem impl_added.ev {v w : List Int} (hv : Bytes v) (hw : Bytes w) (hl : v.length=w.length) (hs : v.length < 140737488355328) : Ev (fun k=>impl_added.f k v w) (addV v w):=by
 unfold impl_added.f
 exact impl_added.ev_l0 v w hv hw hl hs v.length 0 [] (by omega) rfl

theorem impl_Inverse.ev {a : Int} (ha : Byte a) : Ev (fun k=>impl_Inverse.f k a) (inv a):=by
 unfold impl_Inverse.f
 exact ev_bind (impl_power.ev ha 254 (by decide)) (ev_now (inv_pow a).symm)

theorem impl_inverseOf.ev {l : List (List Int)} (hs : sqN l=true) : impl_inverseOf.f l=some (invM l):=by
 unfold impl_inverseOf.f
 rw [if_pos hs]

theorem spec_l2Inverse.ev {l : List (List Int)} (hs : sqN l=true) : spec_l2Inverse.f l=some ((redP l (idM l.length) l.length).1.map Prod.snd,decide ((redP l (idM l.length) l.length).2=l.length)):=by
 unfold spec_l2Inverse.f
 rw [if_pos hs]
theorem invM_yes {l : List (List Int)} (h : (redP l (idM l.length) l.length).2=l.length) : invM l=((redP l (idM l.length) l.length).1.map Prod.snd,true):=by
 unfold invM
 rw [if_neg (by omega)]
theorem invM_no {l : List (List Int)} (h : ¬ (redP l (idM l.length) l.length).2=l.length) : invM l=([],false):=by
 unfold invM
 have:=red_rank_le l (idM l.length) l.length
 rw [if_pos (by omega)]
theorem invM_ok {l : List (List Int)} (h : sqN l=true) : ((invM l).2=true→(invM l).1.length=l.length)∧(∀ r ∈ (invM l).1,okI l.length r)∧(invM l).1.length≤l.length:=by
 obtain ⟨h1,h2,h3⟩:=sqN_iff.1 h
 by_cases e : (redP l (idM l.length) l.length).2=l.length
 ·rw [invM_yes e]
  have hl : ((redP l (idM l.length) l.length).1.map Prod.snd).length=l.length:=by rw [List.length_map,redP_length _ _ _ (by rw [KitN.idM_length])]
  exact ⟨fun _=>hl,snd_all (redP_ok (n:=l.length) h3 (idM_ok l.length)),by show ((redP l (idM l.length) l.length).1.map Prod.snd).length≤_;omega⟩
 ·rw [invM_no e]
  exact ⟨fun z=>(by cases z),fun r hr=>(by cases hr),Nat.zero_le _⟩

theorem impl_solve.ev_l0 (m : List (List Int)) (v : List Int) (hv : Bytes v) (hn : v.length≤1048576) (hr : ∀ r ∈ m,Bytes r∧r.length=v.length) (hl : m.length≤1048576) : ∀ (d i : Nat) (o : List Int),i+d=m.length→o=(applyM m v).take i →
  Ev (fun k=>impl_solve.l0 k v o m (m.length : Int) (i : Int)) (applyM m v,true)
 | 0,i,o,hi,ho=>by
  refine Ev.step (fun k=>impl_solve.l0.eq_2 _ _ _ _ _ k) ?_
  refine ev_neg (by omega) (ev_now ?_)
  rw [ho,List.take_of_length_le (by rw [applyM_length];omega)]
 | d+1,i,o,hi,ho=>by
  have hlen : o.length=i:=by rw [ho,List.length_take,applyM_length];omega
  have hri:=hr _ (List.getElem_mem (show i < m.length by omega))
  refine Ev.step (fun k=>impl_solve.l0.eq_2 _ _ _ _ _ k) ?_
  refine ev_pos (by omega) (ev_pos (by omega) (ev_pos (by omega) ?_))
  rw [rdSS _ i (by omega)]
  refine ev_bind (impl_dot.ev hri.1 hv hri.2 (by omega)) (ev_pos (by omega) ?_)
  rw [inc (by omega)]
  refine impl_solve.ev_l0 m v hv hn hr hl d (i+1) _ (by omega) ?_
  rw [List.take_succ_eq_append_getElem (by rw [applyM_length];omega),← ho]
  simp [applyM]
theorem impl_solve.ev {l : List (List Int)} {v : List Int} (hs : sqN l=true) (hv : Bytes v) (hn : v.length=l.length) : Ev (fun k=>impl_solve.f k l v) (if (invM l).2=true then (applyM (invM l).1 v,true) else ([],false)):=by
 unfold impl_solve.f
 rw [impl_inverseOf.ev hs]
 simp only [Option.bind_some]
 have hl:=(sqN_iff.1 hs).2.1
 obtain ⟨h1,h2,h3⟩:=invM_ok hs
 by_cases z : (invM l).2=true
 ·rw [if_pos z]
  refine ev_pos z ?_
  exact impl_solve.ev_l0 (invM l).1 v hv (by omega) (fun r hr=>⟨(h2 r hr).1,by rw [(h2 r hr).2,hn]⟩) (by omega) (invM l).1.length 0 [] (by omega) rfl
 ·rw [if_neg z]
  exact ev_neg z (ev_now rfl)

theorem spec_l1Add.ev_l0 (v w : List Int) (hv : Bytes v) (hw : Bytes w) (hl : v.length=w.length) (hs : v.length < 140737488355328) : ∀ (n i : Nat) (o : List Int),i+n=v.length→o=(addV v w).take i →
  Ev (fun k=>spec_l1Add.l0 k v w o (v.length : Int) (i : Int)) (addV v w)
 | 0,i,o,hi,ho=>by
  refine Ev.step (fun k=>spec_l1Add.l0.eq_2 _ _ _ _ _ k) ?_
  refine ev_neg (by omega) (ev_now ?_)
  subst ho
  rw [List.take_of_length_le (by rw [addV_length];omega)]
 | n+1,i,o,hi,ho=>by
  have hz:=addV_length v w
  have hlen : o.length=i:=by rw [ho,List.length_take,hz];omega
  refine Ev.step (fun k=>spec_l1Add.l0.eq_2 _ _ _ _ _ k) ?_
  refine ev_pos (by omega) (ev_pos (by omega) (ev_pos (by omega) (ev_pos (by omega) (ev_pos (by omega) ?_))))
  rw [inc (by omega),xor_u8 (bytes_rd hv (by omega)) (bytes_rd hw (by omega)),rd_get (by omega),rd_get (by omega)]
  refine spec_l1Add.ev_l0 v w hv hw hl hs n (i+1) _ (by omega) ?_
  rw [List.take_succ_eq_append_getElem (by omega),← ho]
  simp [addV]
theorem spec_l1Add.ev {v w : List Int} (hv : Bytes v) (hw : Bytes w) (hl : v.length=w.length) (hs : v.length < 140737488355328) : Ev (fun k=>spec_l1Add.f k v w) (addV v w):=by
 unfold spec_l1Add.f
 exact spec_l1Add.ev_l0 v w hv hw hl hs v.length 0 [] (by omega) rfl

def hlpN (l : List (S85)) : List Int:=l.map (·.f0)
def hlpB (l : List (S85)) : List Int:=l.map (·.f1)
theorem hlpN_length (l : List (S85)) : (hlpN l).length=l.length:=by simp [hlpN]
theorem hlpB_length (l : List (S85)) : (hlpB l).length=l.length:=by simp [hlpB]
theorem rdHp {l : List (S85)} {i : Nat} (h : i < l.length) : rd_T85 l (i : Int)=l[i]:=by unfold rd_T85;simp [List.getD,h]
theorem hlpN_rd {l : List (S85)} {i : Nat} (h : i < l.length) : rd (hlpN l) (i : Int)=(l[i]).f0:=by rw [rd_get (by rw [hlpN_length];exact h)];simp [hlpN]
def hlpOk (l : List (S85)) (n : Nat) (lost : Int) : Bool:=(List.range l.length).all fun i=>riseAt (hlpN l) n i && decide (rd (hlpN l) (i : Int) ≠ lost)
theorem hlpOk_yes {l : List (S85)} {n : Nat} {lost : Int} (h : ∀ j,j < l.length→riseAt (hlpN l) n j=true∧rd (hlpN l) (j : Int) ≠ lost) : hlpOk l n lost=true:=by
 unfold hlpOk
 rw [List.all_eq_true]
 intro x hx
 have:=h x (by simpa using hx)
 rw [this.1,decide_eq_true this.2];rfl
theorem hlpOk_no {l : List (S85)} {n i : Nat} {lost : Int} (hi : i < l.length) (h : riseAt (hlpN l) n i=false∨rd (hlpN l) (i : Int)=lost) : hlpOk l n lost=false:=by
 unfold hlpOk
 rw [List.all_eq_false]
 refine ⟨i,by simpa using hi,?_⟩
 rcases h with h | h
 ·rw [h];simp
 ·rw [decide_eq_false (fun z=>z h)];simp
/-- The rows of the helpers. -/
def regM (a : Nat) (l : List (S85)) : List (List Int):=l.map fun x=>msrRow a x.f0.toNat
theorem regM_length (a : Nat) (l : List (S85)) : (regM a l).length=l.length:=by simp [regM]
theorem regM_sq {a : Nat} {l : List (S85)} (h1 : 1≤a) (h3 : a≤3) (hl : l.length=2*a) : sqN (regM a l)=true:=by
 refine sqN_iff.2 ⟨by rw [regM_length];omega,by rw [regM_length];omega,fun r hr=>?_⟩
 obtain ⟨x,_,rfl⟩:=List.mem_map.1 hr
 exact ⟨msrRow_bytes a _,by rw [msrRow_length,regM_length,hl]⟩
def regTail (a : Nat) (lost : Nat) (l : List (S85)) : Int × List Int × Bool:=if (invM (regM a l)).2=true then ((lost : Int),addV ((applyM (invM (regM a l)).1 (hlpB l)).take a) (scale (pow (nodeX lost) a) ((applyM (invM (regM a l)).1 (hlpB l)).drop a)),true) else (0,[],false)
def regVal (n k lost : Int) (l : List (S85)) : Int × List Int × Bool:=if (GoodMsr n k∧0≤lost∧lost≤n - 1)∧(l.length : Int)=2*(k - 1)∧hlpOk l n.toNat lost=true then regTail (k - 1).toNat lost.toNat l else (0,[],false)
theorem reg_y {a : Nat} {l : List (S85)} (h1 : 1≤a) (h3 : a≤3) (hl : l.length=2*a) (hz : (invM (regM a l)).2=true) : (applyM (invM (regM a l)).1 (hlpB l)).length=2*a∧Bytes (applyM (invM (regM a l)).1 (hlpB l)):=by
 have hs:=regM_sq h1 h3 hl
 obtain ⟨o1,o2,o3⟩:=invM_ok hs
 exact ⟨by rw [applyM_length,o1 hz,regM_length,hl],applyM_bytes (fun r hr=>(o2 r hr).1) _⟩
theorem spec_RegeneratePiece.ev_l0 (a m lost : Nat) (hg : GoodMsr (m : Int) ((a+1 : Nat) : Int)) (hlost : lost < m) (l : List (S85)) (hl : l.length=2*a) (hb : Bytes (hlpB l)) (hw : ∀ x ∈ l,(Lit.int .i64 x.f0).wf=true) : ∀ (d i : Nat) (g : List Int) (M : List (List Int)),i+d=l.length→g=(hlpB l).take i→M=(regM a l).take i→(∀ j,j < i→riseAt (hlpN l) m j=true∧rd (hlpN l) (j : Int) ≠ (lost : Int)) →
  Ev (fun q=>spec_RegeneratePiece.l0 q (lost : Int) l (a : Int) g l (l.length : Int) (i : Int) (m : Int) ((a+1 : Nat) : Int) M) (if hlpOk l m (lost : Int)=true then regTail a lost l else (0,[],false))
 | 0,i,g,M,hi,hgi,hM,hall=>by
  have ha1 : 1≤a:=by omega
  have ha3 : a≤3:=by omega
  have hs:=regM_sq ha1 ha3 hl
  obtain ⟨o1,o2,o3⟩:=invM_ok hs
  refine Ev.step (fun k=>spec_RegeneratePiece.l0.eq_2 _ _ _ _ _ _ _ _ _ _ k) ?_
  refine ev_neg (by omega) ?_
  rw [if_pos (hlpOk_yes (fun j hj=>hall j (by omega))),hgi,hM,List.take_of_length_le (l:=regM a l) (by rw [regM_length];omega),List.take_of_length_le (l:=hlpB l) (by rw [hlpB_length];omega),spec_l2Inverse.ev hs]
  simp only [Option.bind_some]
  unfold regTail
  by_cases z : (redP (regM a l) (idM (regM a l).length) (regM a l).length).2=(regM a l).length
  ·have hz : (invM (regM a l)).2=true:=by rw [invM_yes z]
   obtain ⟨y1,y2⟩:=reg_y ha1 ha3 hl hz
   rw [invM_yes z] at o1 o2 o3 y1 y2 ⊢
   rw [if_pos rfl]
   have hml : ((redP (regM a l) (idM (regM a l).length) (regM a l).length).1.map Prod.snd).length≤6:=Nat.le_trans o3 (by rw [regM_length];omega)
   refine ev_pos (decide_eq_true z) (ev_bind (spec_l2Apply.ev hb (by rw [hlpB_length];omega) (fun r hr=>⟨(o2 r hr).1,by rw [(o2 r hr).2,regM_length,hlpB_length]⟩) (by omega)) ?_)
   refine ev_pos (by omega) (ev_pos (by rw [y1];omega) ?_)
   simp only [Int.toNat_natCast]
   generalize applyM ((redP (regM a l) (idM (regM a l).length) (regM a l).length).1.map Prod.snd) (hlpB l)=y at y1 y2 ⊢
   refine ev_bind (spec_l5F.ev _ a lost ha3 (by omega)) (ev_bind (spec_l1Scale.ev (Byte.pow (nodeX_byte lost) a) (y2.drop a) (by rw [List.length_drop];omega)) (ev_bind (spec_l1Add.ev (y2.take a) (scale_bytes (Byte.pow (nodeX_byte lost) a) _) (by rw [scale_length,List.length_take,List.length_drop];omega) (by rw [List.length_take];omega)) (ev_now rfl)))
  ·rw [invM_no z,if_neg (by simp)]
   exact ev_neg (by simpa using z) (ev_now rfl)
 | d+1,i,g,M,hi,hgi,hM,hall=>by
  have ha1 : 1≤a:=by omega
  have ha3 : a≤3:=by omega
  have hil : i < l.length:=by omega
  have ih:=fun g' M' hg' hM' hall'=>spec_RegeneratePiece.ev_l0 a m lost hg hlost l hl hb hw d (i+1) g' M' (by omega) hg' hM' hall'
  have hgl : g.length=i:=by rw [hgi,List.length_take,hlpB_length];omega
  have hMl : M.length=i:=by rw [hM,List.length_take,regM_length];omega
  have hx:=hlpN_rd hil
  refine Ev.step (fun k=>spec_RegeneratePiece.l0.eq_2 _ _ _ _ _ _ _ _ _ _ k) ?_
  rw [rdHp hil]
  refine ev_pos (by omega) (ev_pos (by omega) (ev_pos (by omega) ?_))
  rw [show wrap64 ((m : Int) - 1)=(m : Int) - 1 by unfold wrap64;omega]
  simp only [spec_l1In.ev,Option.bind_some,decide_eq_true_eq]
  by_cases c : 0≤(l[i]).f0∧(l[i]).f0≤(m : Int) - 1
  ·refine ev_pos c ?_
   by_cases c2 : (l[i]).f0=(lost : Int)
   ·refine ev_pos c2 (ev_now ?_)
    rw [hlpOk_no hil (.inr (hx.trans c2)),if_neg (by simp)]
   ·refine ev_neg c2 ?_
    obtain ⟨j,hj⟩ : ∃ j : Nat,(l[i]).f0=(j : Int):=⟨(l[i]).f0.toNat,by omega⟩
    have hrow:=spec_l5Row.ev (m : Int) a j ha3 (by omega)
    have hgo : riseAt (hlpN l) m i=true→Ev (fun k=>(spec_l5Row.f k (m : Int) ((a+1 : Nat) : Int) ((l[i]).f0)).bind fun t192=>(if M.length < 5864062014805 then (if g.length < 140737488355328 then (spec_RegeneratePiece.l0 k (lost : Int) l (a : Int) (g ++ [(l[i]).f1]) l (l.length : Int) (wrap64 ((i : Int)+1)) (m : Int) ((a+1 : Nat) : Int) (M ++ [t192])) else (none)) else (none))) (if hlpOk l m (lost : Int)=true then regTail a lost l else (0,[],false)):=by
     intro hr
     rw [hj]
     refine ev_bind hrow (ev_pos (by omega) (ev_pos (by omega) ?_))
     rw [inc (by omega)]
     refine ih _ _ ?_ ?_ (fun t ht=>by by_cases e : t=i;exact e ▸ ⟨hr,by rw [hx];exact c2⟩;exact hall t (by omega))
     ·rw [List.take_succ_eq_append_getElem (by rw [hlpB_length];exact hil),← hgi];simp [hlpB]
     ·rw [List.take_succ_eq_append_getElem (by rw [regM_length];exact hil),← hM];simp [regM,hj]
    by_cases hz : i=0
    ·subst hz
     exact ev_neg (by omega) (hgo (riseAt_yes (by rw [hx];exact c) (.inl rfl)))
    ·have hp : i - 1 < l.length:=by omega
     refine ev_pos (by omega) ?_
     rw [show wrap64 ((i : Int) - 1)=((i - 1 : Nat) : Int) by unfold wrap64;omega,rdHp hp]
     refine ev_pos (by omega) (ev_pos (by omega) ?_)
     have hxp:=hlpN_rd hp
     by_cases c3 : (l[i - 1]).f0 < (l[i]).f0
     ·exact ev_neg (by omega) (hgo (riseAt_yes (by rw [hx];exact c) (.inr (by rw [hx,hxp];exact c3))))
     ·refine ev_pos (by omega) (ev_now ?_)
      rw [hlpOk_no hil (.inl (riseAt_no (fun y=>by rcases y.2 with w | w;exact hz w;rw [hx,hxp] at w;exact c3 w))),if_neg (by simp)]
  ·refine ev_neg c (ev_now ?_)
   rw [hlpOk_no hil (.inl (riseAt_no (fun y=>c (by rw [← hx];exact y.1)))),if_neg (by simp)]
theorem spec_RegeneratePiece.ev (n k lost : Int) (l : List (S85)) (hll : l.length≤1048576) (hb : Bytes (hlpB l)) (hw : ∀ x ∈ l,(Lit.int .i64 x.f0).wf=true) : Ev (fun q=>spec_RegeneratePiece.f q n k lost l) (regVal n k lost l):=by
 unfold spec_RegeneratePiece.f regVal
 simp only [spec_GoodMsr.ev,spec_l1In.ev,Option.bind_some,decide_eq_true_eq]
 by_cases h : GoodMsr n k
 ·refine ev_pos h ?_
  rw [show wrap64 (n - 1)=n - 1 by unfold wrap64;omega,show wrap64 (k - 1)=k - 1 by unfold wrap64;omega,show wrap64 (2*(k - 1))=2*(k - 1) by unfold wrap64;omega]
  by_cases h2 : 0≤lost∧lost≤n - 1
  ·refine ev_pos h2 ?_
   refine Ev.step (fun k=>spec_RegeneratePiece.j0.eq_2 _ _ _ _ _ _ k) ?_
   obtain ⟨a,m,rfl,rfl,h3⟩:=GoodMsr_nat h
   obtain ⟨t,rfl⟩:=Int.eq_ofNat_of_zero_le h2.1
   have e1 : (((a+1 : Nat) : Int) - 1)=(a : Int):=by omega
   rw [e1,Int.toNat_natCast,Int.toNat_natCast,Int.toNat_natCast]
   by_cases h4 : l.length=2*a
   ·refine ev_neg (by simp only [bne_iff_ne];omega) ?_
    refine ev_eq (spec_RegeneratePiece.ev_l0 a m t h (by omega) l h4 hb hw l.length 0 [] [] (by omega) rfl rfl (fun j hj=>by omega)) ?_
    by_cases h5 : hlpOk l m (t : Int)=true
    ·rw [if_pos h5,if_pos ⟨⟨h,h2⟩,by omega,h5⟩]
    ·rw [if_neg h5,if_neg (fun y=>h5 y.2.2)]
   ·rw [if_neg (fun y=>h4 (by have:=y.2.1;omega))]
    exact ev_pos (by simp only [bne_iff_ne];omega) (ev_now rfl)
  ·rw [if_neg (fun y=>h2 y.1.2)]
   refine ev_neg h2 ?_
   refine Ev.step (fun k=>spec_RegeneratePiece.j0.eq_2 _ _ _ _ _ _ k) ?_
   exact ev_pos rfl (ev_now rfl)
 ·rw [if_neg (fun y=>h y.1.1)]
  refine ev_neg h ?_
  refine Ev.step (fun k=>spec_RegeneratePiece.j0.eq_2 _ _ _ _ _ _ k) ?_
  exact ev_pos rfl (ev_now rfl)
theorem impl_RegeneratePiece.ev_l0 (a m lost : Nat) (hg : GoodMsr (m : Int) ((a+1 : Nat) : Int)) (hlost : lost < m) (l : List (S85)) (hl : l.length=2*a) (hb : Bytes (hlpB l)) : ∀ (d i : Nat) (g : List Int) (M : List (List Int)),i+d=l.length→g=(hlpB l).take i→M=(regM a l).take i→(∀ j,j < i→riseAt (hlpN l) m j=true∧rd (hlpN l) (j : Int) ≠ (lost : Int)) →
  Ev (fun q=>impl_RegeneratePiece.l0 q (lost : Int) l M g l (l.length : Int) (i : Int) (m : Int) ((a+1 : Nat) : Int)) (if hlpOk l m (lost : Int)=true then regTail a lost l else (0,[],false))
 | 0,i,g,M,hi,hgi,hM,hall=>by
  have ha1 : 1≤a:=by omega
  have ha3 : a≤3:=by omega
  have hs:=regM_sq ha1 ha3 hl
  refine Ev.step (fun k=>impl_RegeneratePiece.l0.eq_2 _ _ _ _ _ _ _ _ _ k) ?_
  refine ev_neg (by omega) ?_
  rw [if_pos (hlpOk_yes (fun j hj=>hall j (by omega))),hgi,hM,List.take_of_length_le (l:=regM a l) (by rw [regM_length];omega),List.take_of_length_le (l:=hlpB l) (by rw [hlpB_length];omega)]
  refine ev_bind (impl_solve.ev hs hb (by rw [hlpB_length,regM_length])) ?_
  unfold regTail
  by_cases z : (invM (regM a l)).2=true
  ·obtain ⟨y1,y2⟩:=reg_y ha1 ha3 hl z
   rw [if_pos z,if_pos z]
   generalize applyM (invM (regM a l)).1 (hlpB l)=y at y1 y2 ⊢
   refine ev_pos rfl (ev_bind (impl_Msr_powers.ev a lost hg (by omega)) ?_)
   rw [impl_Msr_alpha.ev hg]
   simp only [Option.bind_some]
   rw [show (((a+1 : Nat) : Int) - 1)=(a : Int) by omega]
   refine ev_pos (by omega) (ev_pos (by rw [y1];omega) (ev_pos (by omega) (ev_pos (by rw [y1];omega) ?_)))
   simp only [Int.toNat_natCast]
   exact ev_bind (impl_scaled.ev (Byte.pow (nodeX_byte lost) a) (y2.drop a) (by rw [List.length_drop];omega)) (ev_bind (impl_added.ev (y2.take a) (scale_bytes (Byte.pow (nodeX_byte lost) a) _) (by rw [scale_length,List.length_take,List.length_drop];omega) (by rw [List.length_take];omega)) (ev_now rfl))
  ·rw [if_neg z,if_neg z]
   exact ev_neg (by simp) (ev_now rfl)
 | d+1,i,g,M,hi,hgi,hM,hall=>by
  have ha1 : 1≤a:=by omega
  have ha3 : a≤3:=by omega
  have hil : i < l.length:=by omega
  have ih:=fun g' M' hg' hM' hall'=>impl_RegeneratePiece.ev_l0 a m lost hg hlost l hl hb d (i+1) g' M' (by omega) hg' hM' hall'
  have hgl : g.length=i:=by rw [hgi,List.length_take,hlpB_length];omega
  have hMl : M.length=i:=by rw [hM,List.length_take,regM_length];omega
  have hx:=hlpN_rd hil
  refine Ev.step (fun k=>impl_RegeneratePiece.l0.eq_2 _ _ _ _ _ _ _ _ _ k) ?_
  rw [rdHp hil]
  refine ev_pos (by omega) (ev_pos (by omega) (ev_pos (by omega) ?_))
  simp only [impl_Msr_isNode.ev,Option.bind_some,decide_eq_true_eq]
  by_cases c : 0≤(l[i]).f0∧(l[i]).f0≤(m : Int) - 1
  ·refine ev_pos ⟨hg,c⟩ ?_
   by_cases c2 : (l[i]).f0=(lost : Int)
   ·refine ev_pos c2 (ev_now ?_)
    rw [hlpOk_no hil (.inr (hx.trans c2)),if_neg (by simp)]
   ·refine ev_neg c2 ?_
    obtain ⟨j,hj⟩ : ∃ j : Nat,(l[i]).f0=(j : Int):=⟨(l[i]).f0.toNat,by omega⟩
    have hrow:=impl_Msr_row.ev a j hg (by omega)
    have hgo : riseAt (hlpN l) m i=true→Ev (fun k=>(impl_Msr_row.f k (m : Int) ((a+1 : Nat) : Int) ((l[i]).f0)).bind fun t192=>(if M.length < 5864062014805 then (if g.length < 140737488355328 then (impl_RegeneratePiece.l0 k (lost : Int) l (M ++ [t192]) (g ++ [(l[i]).f1]) l (l.length : Int) (wrap64 ((i : Int)+1)) (m : Int) ((a+1 : Nat) : Int)) else (none)) else (none))) (if hlpOk l m (lost : Int)=true then regTail a lost l else (0,[],false)):=by
     intro hr
     rw [hj]
     refine ev_bind hrow (ev_pos (by omega) (ev_pos (by omega) ?_))
     rw [inc (by omega)]
     refine ih _ _ ?_ ?_ (fun t ht=>by by_cases e : t=i;exact e ▸ ⟨hr,by rw [hx];exact c2⟩;exact hall t (by omega))
     ·rw [List.take_succ_eq_append_getElem (by rw [hlpB_length];exact hil),← hgi];simp [hlpB]
     ·rw [List.take_succ_eq_append_getElem (by rw [regM_length];exact hil),← hM];simp [regM,hj]
    by_cases hz : i=0
    ·subst hz
     exact ev_neg (by omega) (hgo (riseAt_yes (by rw [hx];exact c) (.inl rfl)))
    ·have hp : i - 1 < l.length:=by omega
     refine ev_pos (by omega) ?_
     rw [show wrap64 ((i : Int) - 1)=((i - 1 : Nat) : Int) by unfold wrap64;omega,rdHp hp]
     refine ev_pos (by omega) (ev_pos (by omega) ?_)
     have hxp:=hlpN_rd hp
     by_cases c3 : (l[i - 1]).f0 < (l[i]).f0
     ·exact ev_neg (by omega) (hgo (riseAt_yes (by rw [hx];exact c) (.inr (by rw [hx,hxp];exact c3))))
     ·refine ev_pos (by omega) (ev_now ?_)
      rw [hlpOk_no hil (.inl (riseAt_no (fun y=>by rcases y.2 with w | w;exact hz w;rw [hx,hxp] at w;exact c3 w))),if_neg (by simp)]
  ·refine ev_neg (fun y=>c y.2) (ev_now ?_)
   rw [hlpOk_no hil (.inl (riseAt_no (fun y=>c (by rw [← hx];exact y.1)))),if_neg (by simp)]
theorem impl_RegeneratePiece.ev (n k lost : Int) (l : List (S85)) (hll : l.length≤1048576) (hb : Bytes (hlpB l)) : Ev (fun q=>impl_RegeneratePiece.f q n k lost l) (regVal n k lost l):=by
 unfold impl_RegeneratePiece.f regVal
 simp only [impl_Msr_isNode.ev,Option.bind_some,decide_eq_true_eq]
 by_cases h : GoodMsr n k∧0≤lost∧lost≤n - 1
 ·refine ev_pos h ?_
  rw [impl_Msr_alpha.ev h.1]
  simp only [Option.bind_some]
  obtain ⟨h1,h2⟩:=h
  rw [show wrap64 (2*(k - 1))=2*(k - 1) by unfold wrap64;omega]
  refine Ev.step (fun k=>impl_RegeneratePiece.j0.eq_2 _ _ _ _ _ k) ?_
  obtain ⟨a,m,rfl,rfl,h3⟩:=GoodMsr_nat h1
  obtain ⟨t,rfl⟩:=Int.eq_ofNat_of_zero_le h2.1
  have e1 : (((a+1 : Nat) : Int) - 1)=(a : Int):=by omega
  rw [e1,Int.toNat_natCast,Int.toNat_natCast,Int.toNat_natCast]
  by_cases h4 : l.length=2*a
  ·refine ev_neg (by simp only [bne_iff_ne];omega) ?_
   refine ev_eq (impl_RegeneratePiece.ev_l0 a m t h1 (by omega) l h4 hb l.length 0 [] [] (by omega) rfl rfl (fun j hj=>by omega)) ?_
   by_cases h5 : hlpOk l m (t : Int)=true
   ·rw [if_pos h5,if_pos ⟨⟨h1,h2⟩,by omega,h5⟩]
   ·rw [if_neg h5,if_neg (fun y=>h5 y.2.2)]
  ·rw [if_neg (fun y=>h4 (by have:=y.2.1;omega))]
   exact ev_pos (by simp only [bne_iff_ne];omega) (ev_now rfl)
 ·rw [if_neg (fun y=>h y.1)]
  refine ev_neg h ?_
  refine Ev.step (fun k=>impl_RegeneratePiece.j0.eq_2 _ _ _ _ _ k) ?_
  exact ev_pos rfl (ev_now rfl)

def hlpFine (L : List (S85)) (m : Nat) : Prop:=L.length≤m∧Bytes (hlpB L)∧∀ x ∈ L,(Lit.int .i64 x.f0).wf=true
theorem wf_small {x : Int} (h0 : -1000000≤x) (h1 : x≤1000000) : (Lit.int .i64 x).wf=true:=by
 show (IntKind.i64.min≤x && x≤IntKind.i64.max)=true
 rw [Bool.and_eq_true,decide_eq_true_eq,decide_eq_true_eq]
 exact ⟨show -9223372036854775808≤x by omega,show x≤9223372036854775807 by omega⟩
theorem hlpFine_snoc {L : List (S85)} {m : Nat} (h : hlpFine L m) {c v : Int} (hc : (Lit.int .i64 c).wf=true) (hv : Byte v) : hlpFine (L ++ [(⟨c,v⟩ : S85)]) (m+1):=by
 refine ⟨by rw [List.length_append];have:=h.1;simp;omega,?_,fun x hx=>?_⟩
 ·unfold hlpB
  rw [List.map_append]
  exact Bytes.append h.2.1 (Bytes.one hv)
 ·rcases List.mem_append.1 hx with h2 | h2
  ·exact h.2.2 x h2
  ·simp at h2
   rw [h2]
   exact hc
theorem hlpFine_more {L : List (S85)} {m m' : Nat} (h : hlpFine L m) (hm : m≤m') : hlpFine L m':=⟨by have:=h.1;omega,h.2⟩
theorem helpVal_fine (n k x : Int) {l : List Int} (hl : Bytes l) (j : Int) (hn : n≤1000) : (Lit.int .i64 (helpVal n k x l j).1).wf=true∧Byte (helpVal n k x l j).2.1:=by
 unfold helpVal
 split
 ·rename_i h
  exact ⟨wf_small (by omega) (by omega),dotV_byte hl⟩
 ·exact ⟨wf_small (by decide) (by decide), .zero⟩
theorem rdPc0 {l : List (S76)} {i : Nat} (h : i < l.length) : rd_T76 l (i : Int)=l[i]:=by unfold rd_T76;simp [List.getD,h]
theorem spec_DrawRegeneratePiece.some_l0 {s : List Int} (hs : Bytes s) (n k lost : Int) (hn : n≤1000) (P : List (S76)) (hP : ∀ x ∈ P,Bytes x.f1) (hPl : P.length≤20) : ∀ (d i : Nat) (L : List (S85)) (a z : Int),i+d=P.length→hlpFine L i→0≤a→a+2*d≤4611686018427370000 →
  ∃ T b z',Ev (fun q=>spec_DrawRegeneratePiece.l0 q lost L P (P.length : Int) (i : Int) s a z n k) (n,k,lost,T,b,z')∧hlpFine T 20
 | 0,i,L,a,z,hi,hL,h0,h1=>by
  by_cases c : (L.length : Int) > 0
  ·obtain ⟨u,b,z1,e,r0,r1⟩:=spec_l1Cur_one.some_ hs (a:=a) (z:=z) (n:=12) h0 (by omega) (by decide)
   by_cases cu : u=true
   ·obtain ⟨t,b2,z2,e2,ht0,ht1,q0,q1⟩:=spec_l1Cur_pick.some_ hs (a:=b) (z:=z1) (n:=9) (by omega) (by omega) (by decide)
    refine ⟨L.set (0 : Int).toNat (⟨t,(rd_T85 L 0).f1⟩ : S85),b2,z2,Ev.step (fun q=>spec_DrawRegeneratePiece.l0.eq_2 _ _ _ _ _ _ _ _ _ _ q) (ev_neg (by omega) (ev_pos c ?_)),?_,?_,?_⟩
    ·rw [e]
     simp only [Option.bind_some]
     refine ev_pos cu ?_
     rw [e2]
     exact ev_pos (by omega) (ev_now rfl)
    ·rw [List.length_set]
     have:=hL.1
     omega
    ·intro x hx
     unfold hlpB at hx
     obtain ⟨y,hy,rfl⟩:=List.mem_map.1 hx
     rcases List.mem_or_eq_of_mem_set hy with h2 | h2
     ·exact hL.2.1 _ (List.mem_map.2 ⟨y,h2,rfl⟩)
     ·subst h2
      show Byte (rd_T85 L ((0 : Nat) : Int)).f1
      rw [rdHp (by omega)]
      exact hL.2.1 _ (List.mem_map.2 ⟨_,List.getElem_mem (by omega),rfl⟩)
    ·intro x hx
     rcases List.mem_or_eq_of_mem_set hx with h2 | h2
     ·exact hL.2.2 x h2
     ·subst h2
      exact wf_small (by show -1000000≤t;omega) (by show t≤1000000;omega)
   ·refine ⟨L,b,z1,Ev.step (fun q=>spec_DrawRegeneratePiece.l0.eq_2 _ _ _ _ _ _ _ _ _ _ q) (ev_neg (by omega) (ev_pos c ?_)),hlpFine_more hL (by omega)⟩
    rw [e]
    simp only [Option.bind_some]
    exact ev_neg cu (ev_now rfl)
  ·exact ⟨L,a,z,Ev.step (fun q=>spec_DrawRegeneratePiece.l0.eq_2 _ _ _ _ _ _ _ _ _ _ q) (ev_neg (by omega) (ev_neg c (ev_now rfl))),hlpFine_more hL (by omega)⟩
 | d+1,i,L,a,z,hi,hL,h0,h1=>by
  have ii : wrap64 ((i : Int)+1)=((i+1 : Nat) : Int):=inc (by omega)
  have step : ∀ (y : Bool) (a' z' c v : Int),(Lit.int .i64 c).wf=true→Byte v→0≤a'→a'≤a+2→∃ T b z2,Ev (fun q=>spec_DrawRegeneratePiece.j1 q lost L P (P.length : Int) (i : Int) y s a' z' n k c v) (n,k,lost,T,b,z2)∧hlpFine T 20:=by
   intro y a' z' c v hc hv ha0 ha1
   by_cases cy : y=true
   ·obtain ⟨T,b,z2,e,hT⟩:=spec_DrawRegeneratePiece.some_l0 hs n k lost hn P hP hPl d (i+1) (L ++ [(⟨c,v⟩ : S85)]) a' z' (by omega) (hlpFine_snoc hL hc hv) ha0 (by omega)
    refine ⟨T,b,z2,Ev.step (fun q=>spec_DrawRegeneratePiece.j1.eq_2 _ _ _ _ _ _ _ _ _ _ _ _ _ q) (ev_pos cy (ev_pos (by have:=hL.1;omega) ?_)),hT⟩
    rw [ii]
    exact e
   ·obtain ⟨T,b,z2,e,hT⟩:=spec_DrawRegeneratePiece.some_l0 hs n k lost hn P hP hPl d (i+1) L a' z' (by omega) (hlpFine_more hL (by omega)) ha0 (by omega)
    refine ⟨T,b,z2,Ev.step (fun q=>spec_DrawRegeneratePiece.j1.eq_2 _ _ _ _ _ _ _ _ _ _ _ _ _ q) (ev_neg cy ?_),hT⟩
    rw [ii]
    exact e
  have hi2 : i < P.length:=by omega
  have hb : Bytes (P[i]).f1:=hP _ (List.getElem_mem hi2)
  have hf:=helpVal_fine n k (P[i]).f0 hb lost hn
  have st : ∀ {r},Ev (fun q=>if (helpVal n k (P[i]).f0 (P[i]).f1 lost).2.2=true then (if (L.length : Int) < (wrap64 (2*(wrap64 (k - 1)))) then ((spec_l1Cur_one.f s a z 2).bind fun bt=>(if bt.1=true then (spec_DrawRegeneratePiece.j1 q lost L P (P.length : Int) (i : Int) true s bt.2.1 bt.2.2 n k (helpVal n k (P[i]).f0 (P[i]).f1 lost).1 (helpVal n k (P[i]).f0 (P[i]).f1 lost).2.1) else (spec_DrawRegeneratePiece.j1 q lost L P (P.length : Int) (i : Int) (decide ((wrap64 (n - (P[i]).f0))≤(wrap64 ((wrap64 ((wrap64 (2*(wrap64 (k - 1)))) - (L.length : Int)))+1)))) s bt.2.1 bt.2.2 n k (helpVal n k (P[i]).f0 (P[i]).f1 lost).1 (helpVal n k (P[i]).f0 (P[i]).f1 lost).2.1))) else (spec_DrawRegeneratePiece.j1 q lost L P (P.length : Int) (i : Int) false s a z n k (helpVal n k (P[i]).f0 (P[i]).f1 lost).1 (helpVal n k (P[i]).f0 (P[i]).f1 lost).2.1)) else (spec_DrawRegeneratePiece.j1 q lost L P (P.length : Int) (i : Int) false s a z n k (helpVal n k (P[i]).f0 (P[i]).f1 lost).1 (helpVal n k (P[i]).f0 (P[i]).f1 lost).2.1)) r→Ev (fun q=>spec_DrawRegeneratePiece.l0 q lost L P (P.length : Int) (i : Int) s a z n k) r:=by
   intro r h
   refine Ev.step (fun q=>spec_DrawRegeneratePiece.l0.eq_2 lost L P (P.length : Int) (i : Int) s a z n k q) (ev_pos (by omega) (ev_pos (by omega) (ev_pos (by omega) ?_)))
   rw [rdPc0 hi2]
   exact ev_bind (spec_HelpFor.ev n k (P[i]).f0 hb lost) h
  by_cases c1 : (helpVal n k (P[i]).f0 (P[i]).f1 lost).2.2=true
  ·by_cases c2 : (L.length : Int) < (wrap64 (2*(wrap64 (k - 1))))
   ·obtain ⟨u,b,z1,e,r0,r1⟩:=spec_l1Cur_one.some_ hs (a:=a) (z:=z) (n:=2) h0 (by omega) (by decide)
    by_cases cu : u=true
    ·obtain ⟨T,b2,z2,e2,hT⟩:=step true b z1 _ _ hf.1 hf.2 (by omega) (by omega)
     refine ⟨T,b2,z2,st (ev_pos c1 (ev_pos c2 ?_)),hT⟩
     rw [e]
     simp only [Option.bind_some]
     exact ev_pos cu e2
    ·obtain ⟨T,b2,z2,e2,hT⟩:=step _ b z1 _ _ hf.1 hf.2 (by omega) (by omega)
     refine ⟨T,b2,z2,st (ev_pos c1 (ev_pos c2 ?_)),hT⟩
     rw [e]
     simp only [Option.bind_some]
     exact ev_neg cu e2
   ·obtain ⟨T,b2,z2,e2,hT⟩:=step false a z _ _ hf.1 hf.2 (by omega) (by omega)
    exact ⟨T,b2,z2,st (ev_pos c1 (ev_neg c2 e2)),hT⟩
  ·obtain ⟨T,b2,z2,e2,hT⟩:=step false a z _ _ hf.1 hf.2 (by omega) (by omega)
   exact ⟨T,b2,z2,st (ev_neg c1 e2),hT⟩
theorem spec_DrawRegeneratePiece.some_ {s : List Int} (hs : Bytes s) : ∃ n k lost L,Ev (fun q=>spec_DrawRegeneratePiece.f q s) (n,k,lost,L)∧hlpFine L 20:=by
 obtain ⟨n,k,b,z1,e,hn,hk,hb0,hb1⟩:=spec_l1Cur_msr.some_ hs (a:=0) (z:=0) (by decide) (by decide)
 have main : ∃ lost L b' z',Ev (fun q=>spec_DrawRegeneratePiece.g q s 0 0) (n,k,lost,L,b',z')∧hlpFine L 20:=by
  unfold spec_DrawRegeneratePiece.g
  rw [e]
  simp only [Option.bind_some]
  rw [spec_GoodMsr.ev]
  simp only [Option.bind_some]
  by_cases c : GoodMsr n k
  ·obtain ⟨lost,b2,z2,e2,hl0,hl1,r0,r1⟩:=spec_l1Cur_pick.some_ hs (a:=b) (z:=z1) (n:=n) (by omega) (by omega) (by omega)
   obtain ⟨w1,w2,w3⟩:=small_kk hk.1 hk.2
   obtain ⟨i,hi⟩:=Int.eq_ofNat_of_zero_le w2
   obtain ⟨D,b3,z3,e3,hD,hl,q0,q1⟩:=spec_l1Cur_vector.some_n hs (a:=b2) (z:=z2) i (by omega) (by omega) (by omega)
   obtain ⟨a,m,rfl,rfl,g1,g2,g3,g4⟩:=GoodMsr_nat c
   have hDl : D.length=a*(a+1):=by
    have:=@enc_size a
    omega
   have he:=spec_l5Encode.ev g1 g2 g4 hD hDl
   have hel:=encL_length m a D
   obtain ⟨T,b4,z4,e4,hT⟩:=spec_DrawRegeneratePiece.some_l0 hs ((m : Nat) : Int) ((a+1 : Nat) : Int) lost (by omega) (encL m a D) (fun x hx=>by
    unfold encL at hx
    obtain ⟨j,_,rfl⟩:=List.mem_map.1 hx
    exact applyM_bytes (trM_bytes (msgM_bytes a hD)) _) (by omega) m 0 [] b3 z3 (by omega) ⟨by simp,(fun x hx=>by cases hx),(fun x hx=>by cases hx)⟩ (by omega) (by omega)
   refine ⟨lost,T,b4,z4,ev_pos (decide_eq_true c) ?_,hT⟩
   rw [e2]
   simp only [Option.bind_some]
   rw [w1,hi]
   exact ev_bind e3 (ev_bind he e4)
  ·exact ⟨0,[(⟨1,0⟩ : S85)],b,z1,ev_neg (by rw [decide_eq_true_eq];exact c) (ev_now rfl),by simp,Bytes.one .zero,fun x hx=>by simp at hx;subst hx;exact wf_small (by decide) (by decide)⟩
 obtain ⟨lost,L,b',z',h1,h2⟩:=main
 exact ⟨n,k,lost,L,ev_bind h1 (ev_now rfl),h2⟩

theorem spec_l1Inverse.ev {a : Int} (ha : Byte a) : Ev (fun k=>spec_l1Inverse.f k a) (inv a):=by
 unfold spec_l1Inverse.f
 by_cases h : a=0
 ·subst h
  exact ev_pos rfl (ev_now inv_zero.symm)
 ·exact ev_neg h (ev_bind (spec_l1Power.ev ha 254 (by decide)) (ev_now (inv_pow a).symm))

theorem spec_l2Own.ev_l0 (l : List (List Int)) (hl : l.length≤1048576) (hr : ∀ r ∈ l,r.length≤1048576) : ∀ (d i : Nat) (o : List (List Int)),i+d=l.length→o=l.take i→Ev (fun k=>spec_l2Own.l0 k l (l.length : Int) (i : Int) o) l
 | 0,i,o,hi,ho=>by
  refine Ev.step (fun k=>spec_l2Own.l0.eq_2 _ _ _ _ k) ?_
  refine ev_neg (by omega) (ev_now ?_)
  rw [ho,List.take_of_length_le (by omega)]
 | d+1,i,o,hi,ho=>by
  have hol : o.length=i:=by rw [ho,List.length_take];omega
  have hrl : (l.getD i []).length≤1048576:=by
   rw [List.getD_eq_getElem?_getD,List.getElem?_eq_getElem (show i < l.length by omega)]
   exact hr _ (List.getElem_mem _)
  refine Ev.step (fun k=>spec_l2Own.l0.eq_2 _ _ _ _ k) ?_
  simp only [Option.bind_some]
  refine ev_pos (by omega) (ev_pos (by omega) (ev_pos (by omega) (ev_pos (show ([] : List Int).length+(l.getD i []).length < 140737488355328 by simp only [List.length_nil];omega) (ev_pos (by omega) ?_))))
  rw [inc (by omega)]
  refine spec_l2Own.ev_l0 l hl hr d (i+1) _ (by omega) ?_
  rw [List.take_succ_eq_append_getElem (show i < l.length by omega),← ho,show l[i]'(by omega)=l.getD i [] by rw [List.getD_eq_getElem?_getD,List.getElem?_eq_getElem (show i < l.length by omega)];rfl]
  rfl
theorem spec_l2Own.ev (l : List (List Int)) (hl : l.length≤1048576) (hr : ∀ r ∈ l,r.length≤1048576) : Ev (fun k=>spec_l2Own.f k l) l:=by
 unfold spec_l2Own.f
 exact spec_l2Own.ev_l0 l hl hr l.length 0 [] (by omega) rfl

def idPart (n i : Nat) : List (List Int):=(List.range n).map fun j=>if j < i then (List.replicate n 0).set j 1 else List.replicate n 0
theorem idPart_length (n i : Nat) : (idPart n i).length=n:=by simp [idPart]
theorem idPart_zero (n : Nat) : idPart n 0=blankM n n:=by
 apply List.ext_getElem
 ·simp [idPart,blankM]
 ·intro j h1 h2;simp [idPart,blankM]
theorem idPart_all (n : Nat) : idPart n n=idM n:=by
 apply List.ext_getElem
 ·simp [idPart,idM]
 ·intro j h1 h2
  have : j < n:=by simpa [idPart] using h1
  simp [idPart,idM,this]
theorem idPart_succ (n i : Nat) (hi : i < n) : (idPart n i).set i ((List.replicate n 0).set i 1)=idPart n (i+1):=by
 apply List.ext_getElem
 ·simp [idPart]
 ·intro j h1 h2
  rw [List.getElem_set]
  by_cases e : i=j
  ·subst e
   simp [idPart]
  ·rw [if_neg e]
   simp only [idPart,List.getElem_map,List.getElem_range]
   by_cases h : j < i
   ·rw [if_pos h,if_pos (by omega)]
   ·rw [if_neg h,if_neg (by omega)]
theorem spec_l2Identity.ev_l0 (n : Nat) (hn : n≤1048576) : ∀ (d i : Nat),i+d=n→Ev (fun k=>spec_l2Identity.l0 k (n : Int) (i : Int) (idPart n i)) (idM n)
 | 0,i,hi=>by
  obtain rfl : i=n:=by omega
  refine Ev.step (fun k=>spec_l2Identity.l0.eq_2 _ _ _ k) ?_
  exact ev_neg (by omega) (ev_now (idPart_all i))
 | d+1,i,hi=>by
  have hl:=idPart_length n i
  have hg : rd_L1 (idPart n i) (i : Int)=List.replicate n 0:=by
   rw [rdSS _ i (by omega)]
   simp [idPart]
  have ih:=spec_l2Identity.ev_l0 n hn d (i+1) (by omega)
  refine Ev.step (fun k=>spec_l2Identity.l0.eq_2 _ _ _ k) ?_
  rw [hg]
  refine ev_pos (by omega) (ev_pos (by omega) (ev_pos (by omega) (ev_pos (by simp;omega) ?_)))
  rw [inc (by omega),Int.toNat_natCast,idPart_succ n i (by omega)]
  exact ih
theorem spec_l2Identity.ev (n : Nat) (hn : n≤1048576) : Ev (fun k=>spec_l2Identity.f k (n : Int)) (idM n):=by
 unfold spec_l2Identity.f
 refine ev_bind (spec_l2Blank.ev n n hn hn) ?_
 have e : ((blankM n n).length : Int)=(n : Int):=by simp [blankM]
 rw [e,← idPart_zero]
 exact spec_l2Identity.ev_l0 n hn n 0 (by omega)

abbrev Hl:=S85
theorem laws_FnRegenerated.ev_j3 (l : List Int) (hb : Bytes l) : Ev (fun k=>laws_FnRegenerated.j3 k l) true:=by
 refine Ev.step (fun k=>laws_FnRegenerated.j3.eq_2 _ k) ?_
 obtain ⟨n,k,lost,L,e,hL⟩:=spec_DrawRegeneratePiece.some_ hb
 have h20:=hL.1
 refine ev_bind e (ev_bind (impl_RegeneratePiece.ev n k lost L (by omega) hL.2.1) (ev_bind (spec_RegeneratePiece.ev n k lost L (by omega) hL.2.1 hL.2.2) ?_))
 refine ev_pos (by simp) (ev_pos rfl ?_)
 rw [laws_sameBytes.ev]
 exact ev_now rfl
theorem laws_FnRegenerated.ev_j2 (l : List Int) (hb : Bytes l) : Ev (fun k=>laws_FnRegenerated.j2 k l (!true)) true :=
 Ev.step (fun k=>laws_FnRegenerated.j2.eq_2 _ _ k) (ev_neg (by decide) (laws_FnRegenerated.ev_j3 l hb))
def hlpL (a : Nat) (D : List Int) (lost : Nat) (p : List Nat) : List Hl:=p.map fun (x : Nat)=>⟨(x : Int),dotV (pieceAt a D x).f1 (shortR a lost)⟩
theorem hlpL_length (a : Nat) (D : List Int) (lost : Nat) (p : List Nat) : (hlpL a D lost p).length=p.length:=by simp [hlpL]
theorem reg_back {a m : Nat} (h1 : 1≤a) (h3 : a≤3) (hm : m≤14) (hg : GoodMsr (m : Int) ((a+1 : Nat) : Int)) {D : List Int} (hD : Bytes D) {lost : Nat} (hl : lost < m) (p : List Nat) (hp : p.length=2*a) (hlt : ∀ x ∈ p,x < m∧x ≠ lost) (hs : p.Pairwise (· < ·)) :
  regVal (m : Int) ((a+1 : Nat) : Int) (lost : Int) (hlpL a D lost p)=((lost : Int),(pieceAt a D lost).f1,true):=by
 have hN : hlpN (hlpL a D lost p)=p.map fun (x : Nat)=>(x : Int):=by
  unfold hlpN hlpL
  rw [List.map_map]
  rfl
 have hu : upTo m (hlpN (hlpL a D lost p)):=by
  rw [hN]
  refine ⟨fun x hx=>?_,?_⟩
  ·obtain ⟨y,hy,rfl⟩:=List.mem_map.1 hx
   have:=(hlt y hy).1
   omega
  ·rw [List.pairwise_map]
   exact hs.imp fun h=>by omega
 have hNl : (hlpN (hlpL a D lost p)).length=2*a:=by rw [hlpN_length,hlpL_length,hp]
 have hok : hlpOk (hlpL a D lost p) ((m : Int)).toNat (lost : Int)=true:=by
  rw [Int.toNat_natCast]
  refine hlpOk_yes fun j hj=>?_
  rw [hlpL_length] at hj
  have hj2 : j < (hlpN (hlpL a D lost p)).length:=by omega
  refine ⟨riseAt_yes (by have:=upTo_rd hu hj2;omega) ?_,?_⟩
  ·by_cases e : j=0
   ·exact .inl e
   ·exact .inr (upTo_lt hu (by omega) hj2)
  ·rw [rd_get hj2]
   intro e
   have hx:=List.getElem_mem hj2
   rw [e,hN] at hx
   obtain ⟨y,hy,hyl⟩:=List.mem_map.1 hx
   have:=(hlt y hy).2
   omega
 unfold regVal
 rw [if_pos ⟨⟨hg,by omega,by omega⟩,by rw [hlpL_length];omega,hok⟩,show (((a+1 : Nat) : Int) - 1).toNat=a by omega,Int.toNat_natCast]
 have hM : regM a (hlpL a D lost p)=p.map (msrRow a):=by
  unfold regM hlpL
  rw [List.map_map]
  rfl
 have hMl : (p.map (msrRow a)).length=2*a:=by rw [List.length_map,hp]
 have hMo : ∀ r ∈ p.map (msrRow a),okI (p.map (msrRow a)).length r:=fun r hr=>by
  obtain ⟨x,_,rfl⟩:=List.mem_map.1 hr
  exact ⟨msrRow_bytes a x,by rw [msrRow_length,hMl]⟩
 have hr : (rowI.red (p.map (msrRow a)) (p.map (msrRow a)).length).2=(p.map (msrRow a)).length:=by
  rw [hMl]
  refine msrRows_rank p hp (fun i hi=>?_) fun i j hi hj e=>?_
  ·rw [List.getD_eq_getElem?_getD,List.getElem?_eq_getElem hi]
   have:=(hlt _ (List.getElem_mem hi)).1
   show p[i] < 14
   omega
  ·rw [List.getD_eq_getElem?_getD,List.getD_eq_getElem?_getD,List.getElem?_eq_getElem hi,List.getElem?_eq_getElem hj] at e
   have e : p[i]=p[j]:=e
   have hpw:=List.pairwise_iff_getElem.1 hs
   by_cases c : i=j
   ·exact c
   ·by_cases c2 : i < j
    ·have:=hpw i j hi hj c2;omega
    ·have:=hpw j i hj hi (by omega);omega
 have hz : (invM (p.map (msrRow a))).2=true:=(Go.Proofs.Yteflgifmdojahaa.Lin.inv_iff hMo).2 hr
 have hq : sqN (p.map (msrRow a))=true:=by
  rw [← hM]
  exact regM_sq h1 h3 (by rw [hlpL_length,hp])
 obtain ⟨o1,o2,_⟩:=invM_ok hq
 have m1:=msgM_okI a hD
 have ml : (msgM a D).length=2*a:=tab_length _ _ _
 have hy : Bytes (applyM (msgM a D) (shortR a lost)):=applyM_bytes (fun r hr=>(m1 r hr).1) _
 have hB : hlpB (hlpL a D lost p)=applyM (p.map (msrRow a)) (applyM (msgM a D) (shortR a lost)):=by
  unfold hlpB hlpL
  rw [List.map_map]
  conv=>rhs;unfold applyM
  rw [List.map_map]
  refine List.map_congr_left fun x _=>?_
  exact help_dot h1 hD x lost
 unfold regTail
 rw [hM,if_pos hz,hB,solve_back hMo hr (o1 hz) o2 hy (by rw [applyM_length,ml,hMl]),piece_back h1 hD lost]
 rfl
theorem hlpL_bytes {a : Nat} {D : List Int} (hD : Bytes D) (lost : Nat) (p : List Nat) : Bytes (hlpB (hlpL a D lost p)):=by
 intro x hx
 unfold hlpB hlpL at hx
 rw [List.map_map] at hx
 obtain ⟨y,_,rfl⟩:=List.mem_map.1 hx
 exact dotV_byte (applyM_bytes (trM_bytes (msgM_bytes a hD)) _)
theorem encL_get {m a : Nat} {D : List Int} {i : Nat} (h : i < (encL m a D).length) : (encL m a D)[i]=pieceAt a D i:=by
 simp [encL]
theorem laws_FnRegenerated.ev_l1 {a m : Nat} (h1 : 1≤a) (h3 : a≤3) (hm : m≤14) (hg : GoodMsr (m : Int) ((a+1 : Nat) : Int)) {D : List Int} (hD : Bytes D) {lost : Nat} (hl : lost < m) (p : List Nat) (hp : p.length=2*a) (hlt : ∀ x ∈ p,x < m∧x ≠ lost) (hs : p.Pairwise (· < ·)) (o t l : List Int) (hb : Bytes l) (ht : t.length=2*a) (hto : upTo o.length t) (hpo : ∀ i (h : i < p.length),rd o (rd t (i : Int))=(p[i] : Int)) : ∀ (d i : Nat),i+d=2*a →
  Ev (fun k=>laws_FnRegenerated.l1 k l (encL m a D) (lost : Int) o (hlpL a D lost (p.take i)) t (t.length : Int) (i : Int) (m : Int) ((a+1 : Nat) : Int)) true
 | 0,i,hi=>by
  refine Ev.step (fun k=>laws_FnRegenerated.l1.eq_2 _ _ _ _ _ _ _ _ _ _ k) (ev_neg (by omega) ?_)
  rw [List.take_of_length_le (by omega)]
  refine ev_bind (impl_RegeneratePiece.ev (m : Int) ((a+1 : Nat) : Int) (lost : Int) (hlpL a D lost p) (by rw [hlpL_length];omega) (hlpL_bytes hD lost p)) ?_
  rw [reg_back h1 h3 hm hg hD hl p hp hlt hs]
  have hel:=encL_length m a D
  refine ev_pos rfl (ev_pos rfl (ev_pos (by omega) (ev_pos (by omega) ?_)))
  rw [rdPc0 (by omega),encL_get,laws_sameBytes.ev]
  exact laws_FnRegenerated.ev_j2 l hb
 | d+1,i,hi=>by
  have hel:=encL_length m a D
  have hi2 : i < p.length:=by omega
  have hw:=hlt _ (List.getElem_mem hi2)
  have hr:=upTo_rd hto (show i < t.length by omega)
  refine Ev.step (fun k=>laws_FnRegenerated.l1.eq_2 _ _ _ _ _ _ _ _ _ _ k) (ev_pos (by omega) (ev_pos (by omega) (ev_pos (by omega) (ev_pos (by omega) (ev_pos (by omega) ?_)))))
  rw [hpo i hi2]
  refine ev_pos (by omega) (ev_pos (by omega) ?_)
  rw [rdPc0 (by omega),encL_get]
  have hpb : Bytes (pieceAt a D p[i]).f1:=applyM_bytes (trM_bytes (msgM_bytes a hD)) _
  have hpl : (pieceAt a D p[i]).f1.length=a:=pieceAt_length h1 D _
  refine ev_bind (impl_HelpFor.ev (m : Int) ((a+1 : Nat) : Int) (pieceAt a D p[i]).f0 hpb (lost : Int)) ?_
  have hv : helpVal (m : Int) ((a+1 : Nat) : Int) (pieceAt a D p[i]).f0 (pieceAt a D p[i]).f1 (lost : Int)=((p[i] : Int),dotV (pieceAt a D p[i]).f1 (shortR a lost),true):=by
   unfold helpVal
   rw [if_pos ⟨hg,⟨show (0 : Int)≤(p[i] : Int) by omega,show (p[i] : Int)≤m - 1 by omega,by rw [hpl];omega⟩,by omega,show (lost : Int) ≠ (p[i] : Int) by omega⟩,show (((a+1 : Nat) : Int) - 1).toNat=a by omega,Int.toNat_natCast]
   rfl
  rw [hv]
  refine ev_pos rfl (ev_pos rfl (ev_pos (by rw [hlpL_length,List.length_take];omega) ?_))
  rw [inc (by omega)]
  have e : hlpL a D lost (p.take i) ++ [(⟨(p[i] : Int),dotV (pieceAt a D p[i]).f1 (shortR a lost)⟩ : Hl)]=hlpL a D lost (p.take (i+1)):=by
   rw [List.take_succ_eq_append_getElem hi2]
   unfold hlpL
   rw [List.map_append]
   rfl
  rw [show ((p[i] : Int),dotV (pieceAt a D p[i]).f1 (shortR a lost),true).1=(p[i] : Int) from rfl,show ((p[i] : Int),dotV (pieceAt a D p[i]).f1 (shortR a lost),true).2.1=dotV (pieceAt a D p[i]).f1 (shortR a lost) from rfl,e]
  exact laws_FnRegenerated.ev_l1 h1 h3 hm hg hD hl p hp hlt hs o t l hb ht hto hpo d (i+1) (by omega)
theorem laws_FnRegenerated.ev_l0 {a m : Nat} (h1 : 1≤a) (h3 : a≤3) (h2 : 2*a+1≤m) (hm : m≤14) (hg : GoodMsr (m : Int) ((a+1 : Nat) : Int)) {D : List Int} (hD : Bytes D) {lost : Nat} (hl : lost < m) (l : List Int) (hb : Bytes l) : ∀ (d i : Nat) (o : List Int),i+d=m→upTo i o→(∀ x ∈ o,x ≠ (lost : Int))→o.length+(if lost < i then 1 else 0)=i →
  Ev (fun k=>laws_FnRegenerated.l0 k l (encL m a D) (lost : Int) o (i : Int) (m : Int) ((a+1 : Nat) : Int)) true
 | 0,i,o,hi,ho,hne,hlen=>by
  rw [if_pos (by omega)] at hlen
  have w1 : wrap64 (((a+1 : Nat) : Int) - 1)=(a : Int):=by rw [wrap_id (by omega) (by omega)];omega
  have w2 : wrap64 (2*(a : Int))=((2*a : Nat) : Int):=by rw [wrap_id (by omega) (by omega)];omega
  obtain ⟨t,e,ht,htl⟩:=laws_someOf.some_ o.length (2*a) l (by omega) (by omega)
  refine Ev.step (fun k=>laws_FnRegenerated.l0.eq_2 _ _ _ _ _ _ _ k) (ev_neg (by omega) ?_)
  rw [w1,w2]
  refine ev_bind e (ev_pos (by omega) (ev_pos (by omega) ?_))
  simp only [Option.bind_some,Int.toNat_natCast]
  have ht2:=upTo_take ht (2*a)
  have hl2 : (t.take (2*a)).length=2*a:=by rw [List.length_take];omega
  have hin : ∀ j,j < 2*a→∃ q : Nat,q < o.length∧rd (t.take (2*a)) (j : Int)=(q : Int):=fun j hj=>by
   have:=upTo_rd ht2 (show j < (t.take (2*a)).length by omega)
   obtain ⟨q,hq⟩:=Int.eq_ofNat_of_zero_le this.1
   exact ⟨q,by omega,hq⟩
  have hel : ∀ q,q < o.length→∃ y : Nat,y < m∧y ≠ lost∧rd o (q : Int)=(y : Int):=fun q hq=>by
   have h5:=upTo_rd ho hq
   obtain ⟨y,hy⟩:=Int.eq_ofNat_of_zero_le h5.1
   have h6 : rd o (q : Int) ∈ o:=by rw [rd_get hq];exact List.getElem_mem hq
   have:=hne _ h6
   exact ⟨y,by omega,by omega,hy⟩
  have hpv : ∀ j,j < 2*a→∃ y : Nat,y < m∧y ≠ lost∧rd o (rd (t.take (2*a)) (j : Int))=(y : Int):=fun j hj=>by
   obtain ⟨q,hq,e1⟩:=hin j hj
   obtain ⟨y,y1,y2,y3⟩:=hel q hq
   exact ⟨y,y1,y2,by rw [e1,y3]⟩
  have hpl : ((List.range (2*a)).map fun (j : Nat)=>(rd o (rd (t.take (2*a)) (j : Int))).toNat).length=2*a:=by simp
  have h:=laws_FnRegenerated.ev_l1 h1 h3 hm hg hD hl ((List.range (2*a)).map fun (j : Nat)=>(rd o (rd (t.take (2*a)) (j : Int))).toNat) hpl (fun x hx=>by
    obtain ⟨j,hj,rfl⟩:=List.mem_map.1 hx
    rw [List.mem_range] at hj
    obtain ⟨y,y1,y2,y3⟩:=hpv j hj
    rw [y3,Int.toNat_natCast]
    exact ⟨y1,y2⟩) (by
    rw [List.pairwise_iff_getElem]
    intro i j hi hj hij
    simp only [List.length_map,List.length_range] at hi hj
    simp only [List.getElem_map,List.getElem_range]
    obtain ⟨qi,qi1,ei⟩:=hin i hi
    obtain ⟨qj,qj1,ej⟩:=hin j hj
    have hlt:=upTo_lt ht2 hij (by omega)
    have h7:=upTo_lt ho (show qi < qj by omega) qj1
    obtain ⟨y,_,_,y3⟩:=hpv i hi
    obtain ⟨y',_,_,y3'⟩:=hpv j hj
    rw [y3,y3',Int.toNat_natCast,Int.toNat_natCast]
    rw [ei] at y3
    rw [ej] at y3'
    omega) o (t.take (2*a)) l hb hl2 ht2 (fun i h=>by
    rw [hpl] at h
    obtain ⟨y,_,_,y3⟩:=hpv i h
    simp only [List.getElem_map,List.getElem_range]
    rw [y3,Int.toNat_natCast]) (2*a) 0 (by omega)
  exact h
 | d+1,i,o,hi,ho,hne,hlen=>by
  refine Ev.step (fun k=>laws_FnRegenerated.l0.eq_2 _ _ _ _ _ _ _ k) (ev_pos (by omega) ?_)
  have hx:=upTo_len ho
  by_cases c : i=lost
  ·refine ev_pos (by omega) ?_
   rw [inc (by omega)]
   refine laws_FnRegenerated.ev_l0 h1 h3 h2 hm hg hD hl l hb d (i+1) o (by omega) (upTo_more ho (by omega)) hne ?_
   rw [if_neg (by omega)] at hlen
   rw [if_pos (by omega)]
   omega
  ·refine ev_neg (by omega) (ev_pos (by omega) ?_)
   rw [inc (by omega)]
   refine laws_FnRegenerated.ev_l0 h1 h3 h2 hm hg hD hl l hb d (i+1) (o ++ [(i : Int)]) (by omega) (upTo_snoc ho) (fun x hx=>?_) ?_
   ·rcases List.mem_append.1 hx with h5 | h5
    ·exact hne x h5
    ·simp at h5
     omega
   ·rw [List.length_append]
    simp only [List.length_singleton]
    by_cases c2 : lost < i
    ·rw [if_pos c2] at hlen
     rw [if_pos (by omega)]
     omega
    ·rw [if_neg c2] at hlen
     rw [if_neg (by omega)]
     omega
theorem FnRegenerated : ∀ (l0 l1 : List Int),(l0.length≤maxLen∧∀ x ∈ l0,(Lit.int .u8 x).wf=true)→(l1.length≤maxLen∧∀ x ∈ l1,(Lit.int .u8 x).wf=true)→∃ k,laws_FnRegenerated.f k l0 l1=some true:=by
 intro l0 l1 h0 h1
 refine Ev.rounds ?_
 unfold laws_FnRegenerated.f
 by_cases hz : wrap64 ((l0.length : Int)+(l1.length : Int)) > 1048576
 ·exact ev_pos hz (ev_now rfl)
 ·refine ev_neg hz ?_
  have hm:=h1.1
  unfold maxLen at hm
  have hb1:=Bytes.of_wf h1.2
  obtain ⟨n,k,D,e,hD,hl⟩:=spec_DrawEncodeMsr.some_ (Bytes.of_wf h0.2)
  refine ev_bind e (ev_bind (impl_EncodeMsr.ev n k hD) (ev_bind (spec_EncodeMsr.ev n k hD) ?_))
  refine ev_neg (by simp) ?_
  by_cases c : GoodMsr n k∧(D.length : Int)=k*(k - 1)
  ·rw [show encVal n k D=(encL n.toNat (k.toNat - 1) D,true) from if_pos c]
   refine ev_pos rfl ?_
   obtain ⟨a,m,rfl,rfl,g1,g2,g3,g4⟩:=GoodMsr_nat c.1
   obtain ⟨t,et,ht0,ht1⟩:=laws_numberOf.pos_ l1 (by omega) hb1
   refine ev_bind et (ev_neg (by omega) ?_)
   have hq0:=Int.tmod_nonneg (a:=t) (m : Int) ht0
   have hq1:=Int.tmod_lt_of_pos t (b:=(m : Int)) (by omega)
   obtain ⟨q,hq⟩:=Int.eq_ofNat_of_zero_le hq0
   rw [hq] at hq1
   show Ev (fun k=>laws_FnRegenerated.l0 k l1 (encL ((m : Int)).toNat (((a+1 : Nat) : Int).toNat - 1) D) (Int.tmod t (m : Int)) [] 0 (m : Int) ((a+1 : Nat) : Int)) true
   rw [hq,Int.toNat_natCast,Int.toNat_natCast,Nat.add_sub_cancel]
   exact laws_FnRegenerated.ev_l0 g1 g2 g3 g4 c.1 hD (by omega) l1 hb1 m 0 [] (by omega) (upTo_nil 0) (fun x hx=>by cases hx) (by simp)
  ·rw [show encVal n k D=([],false) from if_neg c]
   exact ev_neg (by simp) (laws_FnRegenerated.ev_j3 l1 hb1)

end Go.Proofs.Yteflgifmdojahaa.Pure
-- HALVED
-- SQUEEZED
