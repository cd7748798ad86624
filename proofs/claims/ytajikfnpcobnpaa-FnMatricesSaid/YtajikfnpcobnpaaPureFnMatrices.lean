/- A drawn matrix has an inverse exactly if its rank is full, a turned matrix has the same rank, equations are solved, and products are turned as they should be, for all drawn matrices; there is no condition. -/
import Derived.Test.YtajikfnpcobnpaaPFnMatricesx7
import Derived.Test.YtajikfnpcobnpaaVFnMatricesA
import Derived.Test.YtajikfnpcobnpaaVFnMatricesC
namespace Go.Proofs.Ytajikfnpcobnpaa.Pure
open Go.RowKit Go.Proofs.Ytajikfnpcobnpaa.PFnMatrices Go.Proofs.YtajikfnpcobnpaaW.PrintWords Go.Proofs.YtajikfnpcobnpaaW.PrintLast Go.Proofs.Ytajikfnpcobnpaa.Gf Go.Proofs.Ytajikfnpcobnpaa.Kit Go.Proofs.Ytajikfnpcobnpaa.KitW
open Go.Proofs.Ytajikfnpcobnpaa.KitN hiding idM_length
set_option linter.unusedVariables false
set_option linter.unusedSimpArgs false

def transVal (l : List (List Int)) : List (List Int) × Bool:=if goodM l=true then (trM l,true) else ([],false)

theorem sqM_good {l : List (List Int)} (h : goodM l=true) (hb : matBytes l) : sqM l=true:=by
 obtain ⟨h1,h2,h3⟩:=goodM_iff h
 refine sqM_iff.2 ⟨by omega,by omega,fun r hr=>⟨hb r hr,?_⟩⟩
 obtain ⟨i,hi,rfl⟩:=List.getElem_of_mem hr
 have:=h3 i hi
 rw [List.getD_eq_getElem?_getD,List.getElem?_eq_getElem hi] at this
 exact this

theorem sqN_good {l : List (List Int)} (h : goodM l=true) (hb : matBytes l) (e : l.length=(l.getD 0 []).length) : sqN l=true:=by
 unfold sqN
 rw [sqM_good h hb,decide_eq_true (goodM_iff h).1.1,decide_eq_true e.symm]
 rfl

def applyM (m : List (List Int)) (v : List Int) : List Int:=m.map fun r=>dotV r v
theorem applyM_length (m : List (List Int)) (v : List Int) : (applyM m v).length=m.length:=by simp [applyM]
theorem applyM_bytes {m : List (List Int)} (h : matBytes m) (v : List Int) : Bytes (applyM m v):=by
 intro x hx
 simp only [applyM,List.mem_map] at hx
 obtain ⟨r,hr,rfl⟩:=hx
 exact dotV_byte (h r hr)

theorem rdSS (l : List (List Int)) (i : Nat) (h : i < l.length) : rd_L1 l (i : Int)=l[i]:=by unfold rd_L1;simp [List.getD,h]
theorem rdSS0 (l : List (List Int)) (i : Int) : rd_L1 l i=l.getD i.toNat []:=rfl
theorem spec_l1In.ev (a b c : Int) : spec_l1In.f a b c=some (decide (b≤a∧a≤c)):=by
 unfold spec_l1In.f
 by_cases h : a ≥ b
 ·rw [if_pos h];simp [h]
 ·rw [if_neg h];simp;omega

theorem goodM_first {l : List (List Int)} (h1 : 1≤l.length∧l.length≤16) (h2 : 1≤(l.getD 0 []).length∧(l.getD 0 []).length≤16) : goodM l = !((List.range l.length).any fun i=>(l.getD i []).length != (l.getD 0 []).length):=by
 unfold goodM
 rw [decide_eq_true (show 1≤l.length∧l.length≤16∧1≤(l.getD 0 []).length∧(l.getD 0 []).length≤16 from ⟨h1.1,h1.2,h2⟩),Bool.true_and]
theorem goodM_no {l : List (List Int)} (h : ¬ (1≤l.length∧l.length≤16∧1≤(l.getD 0 []).length∧(l.getD 0 []).length≤16)) : goodM l=false:=by
 unfold goodM
 rw [decide_eq_false h,Bool.false_and]
theorem spec_GoodMatrix.ev_l0 (l : List (List Int)) (h1 : 1≤l.length∧l.length≤16) (h2 : 1≤(l.getD 0 []).length∧(l.getD 0 []).length≤16) : ∀ (n i : Nat),i+n=l.length→(∀ j,j < i→(l.getD j []).length=(l.getD 0 []).length) →
  Ev (fun k=>spec_GoodMatrix.l0 k l (l.length : Int) (i : Int) l) (goodM l)
 | 0,i,hi,ha=>by
  refine Ev.step (fun k=>spec_GoodMatrix.l0.eq_2 _ _ _ _ k) ?_
  refine ev_neg (by omega) (ev_now ?_)
  rw [goodM_first h1 h2]
  have : ((List.range l.length).any fun i=>(l.getD i []).length != (l.getD 0 []).length)=false:=by
   rw [List.any_eq_false]
   intro x hx
   have hx' : x < l.length:=by simpa using hx
   simp only [ha x (by omega),bne_self_eq_false]
   simp
  rw [this];rfl
 | n+1,i,hi,ha=>by
  refine Ev.step (fun k=>spec_GoodMatrix.l0.eq_2 _ _ _ _ k) ?_
  refine ev_pos (by omega) (ev_pos (by omega) (ev_pos (by omega) (ev_pos (by omega) ?_)))
  simp only [rdSS0,Int.toNat_natCast,Int.toNat_zero]
  by_cases h : (l.getD i []).length=(l.getD 0 []).length
  ·refine ev_pos (by omega) ?_
   rw [inc (by omega)]
   exact spec_GoodMatrix.ev_l0 l h1 h2 n (i+1) (by omega) (fun j hj=>by by_cases e : j=i;exact e ▸ h;exact ha j (by omega))
  ·refine ev_neg (by omega) (ev_now ?_)
   rw [goodM_first h1 h2]
   have : ((List.range l.length).any fun i=>(l.getD i []).length != (l.getD 0 []).length)=true:=List.any_eq_true.2 ⟨i,by simp;omega,by simpa using h⟩
   rw [this];rfl
theorem spec_GoodMatrix.ev (l : List (List Int)) : Ev (fun k=>spec_GoodMatrix.f k l) (goodM l):=by
 unfold spec_GoodMatrix.f
 simp only [spec_l1In.ev,Option.bind_some,decide_eq_true_eq,rdSS0,Int.toNat_zero]
 by_cases h1 : 1≤(l.length : Int)∧(l.length : Int)≤16
 ·refine ev_pos h1 (ev_pos (by omega) ?_)
  by_cases h2 : 1≤((l.getD 0 []).length : Int)∧((l.getD 0 []).length : Int)≤16
  ·rw [decide_eq_true h2]
   refine Ev.step (fun k=>spec_GoodMatrix.j0.eq_2 _ _ k) (ev_neg (by simp) ?_)
   exact spec_GoodMatrix.ev_l0 l (by omega) (by omega) l.length 0 (by omega) (fun j hj=>absurd hj (by omega))
  ·rw [decide_eq_false h2]
   refine Ev.step (fun k=>spec_GoodMatrix.j0.eq_2 _ _ k) (ev_pos rfl (ev_now ?_))
   exact (goodM_no (by omega)).symm
 ·refine ev_neg h1 ?_
  refine Ev.step (fun k=>spec_GoodMatrix.j0.eq_2 _ _ k) (ev_pos rfl (ev_now ?_))
  exact (goodM_no (by omega)).symm

theorem spec_l2Inverse.ev {l : List (List Int)} (hs : sqN l=true) : spec_l2Inverse.f l=some ((redP l (idM l.length) l.length).1.map Prod.snd,decide ((redP l (idM l.length) l.length).2=l.length)):=by
 unfold spec_l2Inverse.f
 rw [if_pos hs]
theorem invM_yes {l : List (List Int)} (h : (redP l (idM l.length) l.length).2=l.length) : invM l=((redP l (idM l.length) l.length).1.map Prod.snd,true):=by
 unfold invM
 rw [if_neg (by omega)]
theorem invM_no {l : List (List Int)} (h : ¬ (redP l (idM l.length) l.length).2=l.length) : invM l=([],false):=by
 unfold invM
 have:=red_rank_le l (idM l.length) l.length
 rw [if_pos (by omega)]
theorem invM_ok {l : List (List Int)} (h : sqN l=true) : ((invM l).2=true→(invM l).1.length=l.length)∧(∀ r ∈ (invM l).1,okI l.length r)∧(invM l).1.length≤l.length:=by
 obtain ⟨h1,h2,h3⟩:=sqN_iff.1 h
 by_cases e : (redP l (idM l.length) l.length).2=l.length
 ·rw [invM_yes e]
  have hl : ((redP l (idM l.length) l.length).1.map Prod.snd).length=l.length:=by rw [List.length_map,redP_length _ _ _ (by rw [KitN.idM_length])]
  exact ⟨fun _=>hl,snd_all (redP_ok (n:=l.length) h3 (idM_ok l.length)),by show ((redP l (idM l.length) l.length).1.map Prod.snd).length≤_;omega⟩
 ·rw [invM_no e]
  exact ⟨fun z=>(by cases z),fun r hr=>(by cases hr),Nat.zero_le _⟩

def invVal (l : List (List Int)) : List (List Int) × Bool:=if goodM l=true∧l.length=(l.getD 0 []).length then invM l else ([],false)
theorem spec_InverseOf.ev (l : List (List Int)) (hb : matBytes l) : Ev (fun k=>spec_InverseOf.f k l) (invVal l):=by
 unfold spec_InverseOf.f invVal
 refine ev_bind (spec_GoodMatrix.ev l) ?_
 by_cases h : goodM l=true
 ·have h1:=(goodM_iff h).1.1
  refine ev_pos h (ev_pos (by omega) ?_)
  refine Ev.step (fun k=>spec_InverseOf.j0.eq_2 _ _ k) ?_
  simp only [rdSS0,Int.toNat_zero]
  by_cases e : l.length=(l.getD 0 []).length
  ·refine ev_neg (by simp only [bne_iff_ne];omega) ?_
   have hs:=sqN_good h hb e
   simp only [if_pos (show goodM l=true∧l.length=(l.getD 0 []).length from ⟨h,e⟩)]
   rw [spec_l2Inverse.ev hs]
   simp only [Option.bind_some]
   by_cases z : (redP l (idM l.length) l.length).2=l.length
   ·rw [invM_yes z]
    exact ev_pos (decide_eq_true z) (ev_now rfl)
   ·rw [invM_no z]
    exact ev_neg (by simpa using z) (ev_now rfl)
  ·rw [if_neg (fun z=>e z.2)]
   exact ev_pos (by simp only [bne_iff_ne];omega) (ev_now rfl)
 ·rw [if_neg (fun z=>h z.1)]
  refine ev_neg h ?_
  refine Ev.step (fun k=>spec_InverseOf.j0.eq_2 _ _ k) ?_
  exact ev_pos rfl (ev_now rfl)
theorem invVal_ok (l : List (List Int)) (hb : matBytes l) : rowsLe 16 (invVal l).1∧matBytes (invVal l).1∧((invVal l).2=true→(invVal l).1.length=l.length∧∀ r ∈ (invVal l).1,r.length=l.length):=by
 unfold invVal
 by_cases h : goodM l=true∧l.length=(l.getD 0 []).length
 ·rw [if_pos h]
  have hg:=(goodM_iff h.1).1.2
  obtain ⟨h1,h2,h3⟩:=invM_ok (sqN_good h.1 hb h.2)
  exact ⟨⟨by omega,fun r hr=>by rw [(h2 r hr).2];exact hg⟩,fun r hr=>(h2 r hr).1,fun z=>⟨h1 z,fun r hr=>(h2 r hr).2⟩⟩
 ·rw [if_neg h]
  exact ⟨nil_rows 16,fun r hr=>(by cases hr),fun z=>(by cases z)⟩

def solveVal (l : List (List Int)) (v : List Int) : List Int × Bool:=if (invVal l).2=true∧v.length=l.length then (applyM (invVal l).1 v,true) else ([],false)

section
open Go.Proofs.Ytajikfnpcobnpaa.Fld Go.Proofs.Ytajikfnpcobnpaa.Lin
theorem toF_dot : ∀ (v w : List Int),Bytes v→Bytes w→v.length=w.length→toF (dotV v w)=sm (fun i=>toF (v.getD i 0)*toF (w.getD i 0)) v.length
 | [],[],_,_,_=>toF_zero
 | x :: v,y :: w,hv,hw,hl=>by
  have hx : Byte x:=hv x (by simp)
  have hy : Byte y:=hw y (by simp)
  have hv2 : Bytes v:=fun z hz=>hv z (by simp [hz])
  have hw2 : Bytes w:=fun z hz=>hw z (by simp [hz])
  show toF (gx (mul x y) (dotV v w))=sm _ (v.length+1)
  rw [toF_gx (hx.mul y) (dotV_byte hv2),toF_mul hx hy,toF_dot v w hv2 hw2 (by simpa using hl),Nat.add_comm,sm_split]
  have e1 : sm (fun i=>toF ((x :: v).getD i 0)*toF ((y :: w).getD i 0)) 1=toF x*toF y:=F8.zero_add _
  rw [e1]
  congr 1
  refine sm_congr _ fun k _=>?_
  rw [Nat.add_comm 1 k,List.getD_cons_succ,List.getD_cons_succ]
theorem applyM_getD {M : List (List Int)} {i : Nat} (h : i < M.length) (v : List Int) : (applyM M v).getD i 0=dotV (M.getD i []) v:=by
 unfold applyM
 rw [List.getD_eq_getElem?_getD,List.getElem?_map,List.getElem?_eq_getElem h,List.getD_eq_getElem?_getD,List.getElem?_eq_getElem h]
 rfl
theorem rowM_ok {M : List (List Int)} {n i : Nat} (hM : ∀ r ∈ M,okI n r) (h : i < M.length) : okI n (M.getD i []):=by
 rw [List.getD_eq_getElem?_getD,List.getElem?_eq_getElem h]
 exact hM _ (List.getElem_mem h)
theorem toF_apply {M : List (List Int)} {v : List Int} {n i : Nat} (hM : ∀ r ∈ M,okI n r) (hv : Bytes v) (hl : v.length=n) (h : i < M.length) : toF ((applyM M v).getD i 0)=sm (fun j=>en M i j*toF (v.getD j 0)) n:=by
 have hr:=rowM_ok hM h
 rw [applyM_getD h,toF_dot _ _ hr.1 hv (by rw [hr.2,hl]),hr.2]
 rfl
end

def identityVal (n : Int) : List (List Int) × Bool:=if 1≤n∧n≤16 then (idM n.toNat,true) else ([],false)

theorem goodM_of {l : List (List Int)} {n : Nat} (h : ∀ x ∈ l,Bytes x∧x.length=n) (h1 : 1≤l.length) (h2 : l.length≤16) (h3 : 1≤n) (h4 : n≤16) : goodM l=true:=by
 have hl : ∀ i,i < l.length→(l.getD i []).length=n:=fun i hi=>by
  rw [List.getD_eq_getElem?_getD,List.getElem?_eq_getElem hi]
  exact (h _ (List.getElem_mem hi)).2
 have h0:=hl 0 (by omega)
 unfold goodM
 rw [Bool.and_eq_true,decide_eq_true_eq,Bool.not_eq_true',List.any_eq_false]
 refine ⟨by omega,fun i hi=>?_⟩
 rw [List.mem_range] at hi
 rw [hl i hi,h0,bne_self_eq_false]
 decide

theorem impl_Times.ev_l0 (b : Nat) (hb : b < 256) : ∀ (n i o x : Nat),i+n=8→o < 256→x < 256 →
  Ev (fun k=>impl_Times.l0 k (b : Int) (o : Int) (i : Int) (x : Int)) ((T n o x (b / 2 ^ i) : Nat) : Int)
 | 0,i,o,x,hi,ho,hx=>by
  refine Ev.step (fun k=>impl_Times.l0.eq_2 _ _ _ _ k) ?_
  refine ev_neg (by omega) (ev_now ?_)
  simp only [T]
  omega
 | n+1,i,o,x,hi,ho,hx=>by
  refine Ev.step (fun k=>impl_Times.l0.eq_2 _ _ _ _ k) ?_
  refine ev_pos (by omega) (ev_pos (by omega) ?_)
  have e1 : shr .u8 (b : Int) (i : Int)=((b / 2 ^ i : Nat) : Int):=by
   unfold shr
   rw [Nat.min_eq_left (by simp only [IntKind.bits];omega)]
   simp
  have hd : b / 2 ^ i < 256:=Nat.lt_of_le_of_lt (Nat.div_le_self _ _) hb
  have e2 : wrap64 ((x : Int)*2)=((2*x : Nat) : Int):=by rw [wrap_id (by omega) (by omega)];omega
  have e3 : wrap64 ((i : Int)+1)=((i+1 : Nat) : Int):=by rw [wrap_id (by omega) (by omega)];omega
  rw [e1,and1_u8 hd,e2,e3]
  have e4 : Go.bits .xor .i64 (o : Int) (x : Int)=((o ^^^ x : Nat) : Int):=xor_i64 (by omega) (by omega)
  have e5 : Go.bits .xor .i64 ((2*x : Nat) : Int) 283=((2*x ^^^ 283 : Nat) : Int):=xor_i64 (m:=2*x) (n:=283) (by omega) (by omega)
  have e6 : b / 2 ^ i / 2=b / 2 ^ (i+1):=by rw [Nat.div_div_eq_div_mul,Nat.pow_succ]
  rw [e4,e5]
  have hT : T (n+1) o x (b / 2 ^ i)=T n (if b / 2 ^ i % 2=1 then o ^^^ x else o) (xt x) (b / 2 ^ (i+1)):=by rw [T,e6]
  rw [hT]
  have hxt:=xt_lt hx
  have hox:=xor_lt ho hx
  by_cases h1 : b / 2 ^ i % 2=1
  ·rw [if_pos h1]
   refine ev_pos (by omega) ?_
   by_cases h2 : 2*x > 255
   ·refine ev_pos (by omega) ?_
    have : xt x=2*x ^^^ 283:=by unfold xt;rw [if_pos h2]
    rw [this] at hxt ⊢
    exact impl_Times.ev_l0 b hb n (i+1) _ _ (by omega) hox hxt
   ·refine ev_neg (by omega) ?_
    have : xt x=2*x:=by unfold xt;rw [if_neg h2]
    rw [this] at hxt ⊢
    exact impl_Times.ev_l0 b hb n (i+1) _ _ (by omega) hox hxt
  ·rw [if_neg h1]
   refine ev_neg (by omega) ?_
   by_cases h2 : 2*x > 255
   ·refine ev_pos (by omega) ?_
    have : xt x=2*x ^^^ 283:=by unfold xt;rw [if_pos h2]
    rw [this] at hxt ⊢
    exact impl_Times.ev_l0 b hb n (i+1) _ _ (by omega) ho hxt
   ·refine ev_neg (by omega) ?_
    have : xt x=2*x:=by unfold xt;rw [if_neg h2]
    rw [this] at hxt ⊢
    exact impl_Times.ev_l0 b hb n (i+1) _ _ (by omega) ho hxt
theorem impl_Times.ev {a b : Int} (ha : Byte a) (hb : Byte b) : Ev (fun k=>impl_Times.f k a b) (mul a b):=by
 obtain ⟨m,hm,rfl⟩:=ha.nat
 obtain ⟨n,hn,rfl⟩:=hb.nat
 unfold impl_Times.f
 rw [wrap_id (by omega) (by omega)]
 have h:=impl_Times.ev_l0 n hn 8 0 0 m rfl (by decide) hm
 exact ev_eq h (by unfold Gf.mul gm;simp)

theorem impl_power.ev_l0 : ∀ (N n : Nat) (a o : Int),n≤N→n < 4294967296→Byte a→Byte o→Ev (fun k=>impl_power.l0 k a (n : Int) o) (mul o (pow a n)):=by
 intro N
 induction N with
 | zero =>
  intro n a o hN hn ha ho
  obtain rfl : n=0:=by omega
  refine Ev.step (fun k=>impl_power.l0.eq_2 _ _ _ k) ?_
  exact ev_neg (by omega) (ev_now (by rw [pow_zero,mul_one ho]))
 | succ N ih =>
  intro n a o hN hn ha ho
  refine Ev.step (fun k=>impl_power.l0.eq_2 _ _ _ k) ?_
  by_cases h0 : n=0
  ·subst h0
   exact ev_neg (by omega) (ev_now (by rw [pow_zero,mul_one ho]))
  refine ev_pos (by omega) ?_
  have e : ((n : Int) / 2)=((n / 2 : Nat) : Int):=by omega
  have haa:=Byte.mul ha a
  have hsq : pow (mul a a) (n / 2)=pow a (2*(n / 2)):=by rw [pow_mul ha,pow_two ha]
  rw [and1_i64 hn,e]
  by_cases h1 : n % 2=1
  ·refine ev_pos (by omega) ?_
   refine ev_bind (impl_Times.ev ho ha) (ev_bind (impl_Times.ev ha ha) ?_)
   refine ev_eq (ih (n / 2) _ _ (by omega) (by omega) haa (Byte.mul ho a)) ?_
   have hn2 : n=1+2*(n / 2):=by omega
   rw [hsq,mul_assoc ho ha (Byte.pow ha _)]
   conv=>rhs;rw [hn2,pow_add ha,pow_one ha]
  ·refine ev_neg (by omega) ?_
   refine ev_bind (impl_Times.ev ha ha) ?_
   refine ev_eq (ih (n / 2) _ _ (by omega) (by omega) haa ho) ?_
   have hn2 : n=2*(n / 2):=by omega
   rw [hsq,← hn2]
theorem impl_power.ev {a : Int} (ha : Byte a) (n : Nat) (hn : n < 4294967296) : Ev (fun k=>impl_power.f k a (n : Int)) (pow a n):=by
 unfold impl_power.f
 refine ev_eq (impl_power.ev_l0 n n a 1 (Nat.le_refl _) hn ha .one) ?_
 exact one_mul (Byte.pow ha n)

theorem impl_identity.ev_l0 (n : Nat) (hn : n≤1048576) : ∀ (d i : Nat) (o : List (List Int)),i+d=n→o=(idM n).take i→Ev (fun k=>impl_identity.l0 k (n : Int) o (n : Int) (i : Int)) (idM n)
 | 0,i,o,hi,ho=>by
  refine Ev.step (fun k=>impl_identity.l0.eq_2 _ _ _ _ k) ?_
  refine ev_neg (by omega) (ev_now ?_)
  rw [ho,List.take_of_length_le (by simp [idM];omega)]
 | d+1,i,o,hi,ho=>by
  have hl : o.length=i:=by rw [ho,List.length_take];simp [idM];omega
  refine Ev.step (fun k=>impl_identity.l0.eq_2 _ _ _ _ k) ?_
  simp only [Option.bind_some,Int.toNat_natCast,List.length_replicate]
  refine ev_pos (by omega) (ev_pos (by omega) (ev_pos (by omega) (ev_pos (by omega) (ev_pos (by omega) (ev_pos (by omega) ?_)))))
  rw [inc (by omega)]
  refine impl_identity.ev_l0 n hn d (i+1) _ (by omega) ?_
  rw [List.take_succ_eq_append_getElem (by simp [idM];omega),← ho]
  simp [idM]
theorem impl_identity.ev (n : Nat) (hn : n≤1048576) : Ev (fun k=>impl_identity.f k (n : Int)) (idM n):=by
 unfold impl_identity.f
 exact impl_identity.ev_l0 n hn n 0 [] (by omega) rfl

theorem impl_filled.ev_l1 {E : Nat→Int→Int→Option Int} (n m : Nat) (f : Nat→Nat→Int) (hm : m≤1048576) (i : Nat) (hE : ∀ j,j < m→Ev (fun k=>E k (i : Int) (j : Int)) (f i j)) (out : List (List Int)) (ho : out.length < 5864062014805) {R : List (List Int)}
  (K : Ev (fun k=>impl_filled.l0 E k (m : Int) (out ++ [(List.range m).map (f i)]) (n : Int) (wrap64 ((i : Int)+1))) R) : ∀ (d j : Nat) (o : List Int),j+d=m→o=(List.range j).map (f i) →
  Ev (fun k=>impl_filled.l1 E k (m : Int) out (i : Int) o (n : Int) (i : Int) (m : Int) (j : Int)) R
 | 0,j,o,hj,hoj=>by
  refine Ev.step (fun k=>impl_filled.l1.eq_2 _ _ _ _ _ _ _ _ _ k) ?_
  refine ev_neg (by omega) (ev_pos ho ?_)
  rw [hoj,show j=m by omega]
  exact K
 | d+1,j,o,hj,hoj=>by
  have hol : o.length=j:=by rw [hoj];simp
  refine Ev.step (fun k=>impl_filled.l1.eq_2 _ _ _ _ _ _ _ _ _ k) ?_
  refine ev_pos (by omega) (ev_bind (hE j (by omega)) (ev_pos (by omega) ?_))
  rw [inc (by omega)]
  refine impl_filled.ev_l1 n m f hm i hE out ho K d (j+1) _ (by omega) ?_
  rw [hoj,List.range_succ,List.map_append]
  rfl
theorem impl_filled.ev_l0 {E : Nat→Int→Int→Option Int} (n m : Nat) (f : Nat→Nat→Int) (hn : n≤1048576) (hm : m≤1048576) (hE : ∀ i,i < n→∀ j,j < m→Ev (fun k=>E k (i : Int) (j : Int)) (f i j)) : ∀ (d i : Nat) (o : List (List Int)),i+d=n→o=tab i m f →
  Ev (fun k=>impl_filled.l0 E k (m : Int) o (n : Int) (i : Int)) (tab n m f)
 | 0,i,o,hi,ho=>by
  refine Ev.step (fun k=>impl_filled.l0.eq_2 _ _ _ _ _ k) ?_
  refine ev_neg (by omega) (ev_now ?_)
  rw [ho,show i=n by omega]
 | d+1,i,o,hi,ho=>by
  have hol : o.length=i:=by rw [ho,tab_length]
  have ih:=impl_filled.ev_l0 n m f hn hm hE d (i+1) (o ++ [(List.range m).map (f i)]) (by omega) (by
   rw [ho]
   unfold tab
   rw [List.range_succ,List.map_append]
   rfl)
  refine Ev.step (fun k=>impl_filled.l0.eq_2 _ _ _ _ _ k) ?_
  refine ev_pos (by omega) ?_
  exact impl_filled.ev_l1 n m f hm i (hE i (by omega)) o (by omega) (by rw [inc (by omega)];exact ih) m 0 [] (by omega) rfl
theorem impl_filled.ev {E : Nat→Int→Int→Option Int} (n m : Nat) (f : Nat→Nat→Int) (hn : n≤1048576) (hm : m≤1048576) (hE : ∀ i,i < n→∀ j,j < m→Ev (fun k=>E k (i : Int) (j : Int)) (f i j)) : Ev (fun k=>impl_filled.f E k (n : Int) (m : Int)) (tab n m f):=by
 unfold impl_filled.f
 exact impl_filled.ev_l0 n m f hn hm hE n 0 [] (by omega) rfl

theorem impl_cauchy.ev (n m : Nat) (hn : n≤1048576) (hm : m≤1048576) : Ev (fun k=>impl_cauchy.f k (n : Int) (m : Int)) (tab n m (cauAt m)):=by
 unfold impl_cauchy.f
 refine impl_filled.ev n m (cauAt m) hn hm (fun i hi j hj=>?_)
 unfold impl_cauchy.E
 exact ev_eq (impl_power.ev (mod_byte _) 254 (by decide)) (inv_pow _).symm

theorem spec_l1Add.ev_l0 (v w : List Int) (hv : Bytes v) (hw : Bytes w) (hl : v.length=w.length) (hs : v.length < 140737488355328) : ∀ (n i : Nat) (o : List Int),i+n=v.length→o=(addV v w).take i →
  Ev (fun k=>spec_l1Add.l0 k v w o (v.length : Int) (i : Int)) (addV v w)
 | 0,i,o,hi,ho=>by
  refine Ev.step (fun k=>spec_l1Add.l0.eq_2 _ _ _ _ _ k) ?_
  refine ev_neg (by omega) (ev_now ?_)
  subst ho
  rw [List.take_of_length_le (by rw [addV_length];omega)]
 | n+1,i,o,hi,ho=>by
  have hz:=addV_length v w
  have hlen : o.length=i:=by rw [ho,List.length_take,hz];omega
  refine Ev.step (fun k=>spec_l1Add.l0.eq_2 _ _ _ _ _ k) ?_
  refine ev_pos (by omega) (ev_pos (by omega) (ev_pos (by omega) (ev_pos (by omega) (ev_pos (by omega) ?_))))
  rw [inc (by omega),xor_u8 (bytes_rd hv (by omega)) (bytes_rd hw (by omega)),rd_get (by omega),rd_get (by omega)]
  refine spec_l1Add.ev_l0 v w hv hw hl hs n (i+1) _ (by omega) ?_
  rw [List.take_succ_eq_append_getElem (by omega),← ho]
  simp [addV]
theorem spec_l1Add.ev {v w : List Int} (hv : Bytes v) (hw : Bytes w) (hl : v.length=w.length) (hs : v.length < 140737488355328) : Ev (fun k=>spec_l1Add.f k v w) (addV v w):=by
 unfold spec_l1Add.f
 exact spec_l1Add.ev_l0 v w hv hw hl hs v.length 0 [] (by omega) rfl

theorem spec_l1Times.ev_l0 : ∀ (n o x y : Nat),y < 2 ^ n→n≤8→o < 256→x < 256 →
  Ev (fun k=>spec_l1Times.l0 k (o : Int) (x : Int) (y : Int)) ((T n o x y : Nat) : Int)
 | 0,o,x,y,hy,_,ho,hx=>by
  refine Ev.step (fun k=>spec_l1Times.l0.eq_2 _ _ _ k) ?_
  have : y=0:=by simpa using hy
  subst this
  refine ev_neg (by decide) (ev_now ?_)
  simp only [T]
  omega
 | n+1,o,x,y,hy,hn,ho,hx=>by
  have hy8 : y < 256:=Nat.lt_of_lt_of_le hy (Nat.pow_le_pow_right (n:=2) (by decide) hn)
  by_cases h0 : y=0
  ·subst h0
   refine Ev.step (fun k=>spec_l1Times.l0.eq_2 _ _ _ k) ?_
   refine ev_neg (by decide) (ev_now ?_)
   rw [T_zero]
   omega
  refine Ev.step (fun k=>spec_l1Times.l0.eq_2 _ _ _ k) ?_
  refine ev_pos (by omega) ?_
  have e2 : wrap64 ((x : Int)*2)=((2*x : Nat) : Int):=by rw [wrap_id (by omega) (by omega)];omega
  have e3 : ((y : Int) / 2)=((y / 2 : Nat) : Int):=by omega
  have e4 : Go.bits .xor .i64 (o : Int) (x : Int)=((o ^^^ x : Nat) : Int):=xor_i64 (by omega) (by omega)
  have e5 : Go.bits .xor .i64 ((2*x : Nat) : Int) 283=((2*x ^^^ 283 : Nat) : Int):=xor_i64 (m:=2*x) (n:=283) (by omega) (by omega)
  rw [and1_i64 (by omega),e2,e3,e4,e5]
  have hT : T (n+1) o x y=T n (if y % 2=1 then o ^^^ x else o) (xt x) (y / 2):=by rw [T]
  rw [hT]
  have hxt:=xt_lt hx
  have hox:=xor_lt ho hx
  have hh : y / 2 < 2 ^ n:=by rw [Nat.pow_succ] at hy;omega
  by_cases h1 : y % 2=1
  ·rw [if_pos h1]
   refine ev_pos (by omega) ?_
   by_cases h2 : 2*x > 255
   ·refine ev_pos (by omega) ?_
    have : xt x=2*x ^^^ 283:=by unfold xt;rw [if_pos h2]
    rw [this] at hxt ⊢
    exact spec_l1Times.ev_l0 n _ _ _ hh (by omega) hox hxt
   ·refine ev_neg (by omega) ?_
    have : xt x=2*x:=by unfold xt;rw [if_neg h2]
    rw [this] at hxt ⊢
    exact spec_l1Times.ev_l0 n _ _ _ hh (by omega) hox hxt
  ·rw [if_neg h1]
   refine ev_neg (by omega) ?_
   by_cases h2 : 2*x > 255
   ·refine ev_pos (by omega) ?_
    have : xt x=2*x ^^^ 283:=by unfold xt;rw [if_pos h2]
    rw [this] at hxt ⊢
    exact spec_l1Times.ev_l0 n _ _ _ hh (by omega) ho hxt
   ·refine ev_neg (by omega) ?_
    have : xt x=2*x:=by unfold xt;rw [if_neg h2]
    rw [this] at hxt ⊢
    exact spec_l1Times.ev_l0 n _ _ _ hh (by omega) ho hxt
theorem spec_l1Times.ev {a b : Int} (ha : Byte a) (hb : Byte b) : Ev (fun k=>spec_l1Times.f k a b) (mul a b):=by
 obtain ⟨m,hm,rfl⟩:=ha.nat
 obtain ⟨n,hn,rfl⟩:=hb.nat
 unfold spec_l1Times.f
 rw [wrap_id (i:=(m : Int)) (by omega) (by omega),wrap_id (i:=(n : Int)) (by omega) (by omega)]
 have h:=spec_l1Times.ev_l0 8 0 m n hn (Nat.le_refl _) (by decide) hm
 exact ev_eq h (by unfold Gf.mul gm;simp)

theorem spec_l1Scale.ev_l0 (a : Int) (ha : Byte a) (v : List Int) (hv : Bytes v) (hs : v.length < 140737488355328) : ∀ (n i : Nat) (o : List Int),i+n=v.length→o=(scale a v).take i →
  Ev (fun k=>spec_l1Scale.l0 k a o v (v.length : Int) (i : Int)) (scale a v)
 | 0,i,o,hi,ho=>by
  refine Ev.step (fun k=>spec_l1Scale.l0.eq_2 _ _ _ _ _ k) ?_
  refine ev_neg (by omega) (ev_now ?_)
  subst ho
  rw [List.take_of_length_le (by rw [scale_length];omega)]
 | n+1,i,o,hi,ho=>by
  have hz:=scale_length a v
  have hlen : o.length=i:=by rw [ho,List.length_take,hz];omega
  refine Ev.step (fun k=>spec_l1Scale.l0.eq_2 _ _ _ _ _ k) ?_
  refine ev_pos (by omega) (ev_pos (by omega) (ev_pos (by omega) ?_))
  refine ev_bind (spec_l1Times.ev ha (bytes_rd hv (by omega))) ?_
  refine ev_pos (by omega) ?_
  rw [inc (by omega),rd_get (by omega)]
  refine spec_l1Scale.ev_l0 a ha v hv hs n (i+1) _ (by omega) ?_
  rw [List.take_succ_eq_append_getElem (by omega),← ho]
  simp [scale]
theorem spec_l1Scale.ev {a : Int} (ha : Byte a) {v : List Int} (hv : Bytes v) (hs : v.length < 140737488355328) : Ev (fun k=>spec_l1Scale.f k a v) (scale a v):=by
 unfold spec_l1Scale.f
 exact spec_l1Scale.ev_l0 a ha v hv hs v.length 0 [] (by omega) rfl

theorem spec_l2Own.ev_l0 (l : List (List Int)) (hl : l.length≤1048576) (hr : ∀ r ∈ l,r.length≤1048576) : ∀ (d i : Nat) (o : List (List Int)),i+d=l.length→o=l.take i→Ev (fun k=>spec_l2Own.l0 k l (l.length : Int) (i : Int) o) l
 | 0,i,o,hi,ho=>by
  refine Ev.step (fun k=>spec_l2Own.l0.eq_2 _ _ _ _ k) ?_
  refine ev_neg (by omega) (ev_now ?_)
  rw [ho,List.take_of_length_le (by omega)]
 | d+1,i,o,hi,ho=>by
  have hol : o.length=i:=by rw [ho,List.length_take];omega
  have hrl : (l.getD i []).length≤1048576:=by
   rw [List.getD_eq_getElem?_getD,List.getElem?_eq_getElem (show i < l.length by omega)]
   exact hr _ (List.getElem_mem _)
  refine Ev.step (fun k=>spec_l2Own.l0.eq_2 _ _ _ _ k) ?_
  simp only [Option.bind_some]
  refine ev_pos (by omega) (ev_pos (by omega) (ev_pos (by omega) (ev_pos (show ([] : List Int).length+(l.getD i []).length < 140737488355328 by simp only [List.length_nil];omega) (ev_pos (by omega) ?_))))
  rw [inc (by omega)]
  refine spec_l2Own.ev_l0 l hl hr d (i+1) _ (by omega) ?_
  rw [List.take_succ_eq_append_getElem (show i < l.length by omega),← ho,show l[i]'(by omega)=l.getD i [] by rw [List.getD_eq_getElem?_getD,List.getElem?_eq_getElem (show i < l.length by omega)];rfl]
  rfl
theorem spec_l2Own.ev (l : List (List Int)) (hl : l.length≤1048576) (hr : ∀ r ∈ l,r.length≤1048576) : Ev (fun k=>spec_l2Own.f k l) l:=by
 unfold spec_l2Own.f
 exact spec_l2Own.ev_l0 l hl hr l.length 0 [] (by omega) rfl

theorem spec_l1Power.ev_l0 (a : Int) (ha : Byte a) : ∀ (n m : Nat),n < 4611686018427387904→Ev (fun k=>spec_l1Power.l0 k a (n : Int) (pow a m)) (pow a (m+n))
 | 0,m,_=>by
  refine Ev.step (fun k=>spec_l1Power.l0.eq_2 _ _ _ k) ?_
  exact ev_neg (by omega) (ev_now rfl)
 | n+1,m,hn=>by
  refine Ev.step (fun k=>spec_l1Power.l0.eq_2 _ _ _ k) ?_
  refine ev_pos (by omega) ?_
  refine ev_bind (spec_l1Times.ev (Byte.pow ha m) ha) ?_
  have e : wrap64 (((n+1 : Nat) : Int) - 1)=(n : Int):=by unfold wrap64;omega
  rw [e,← pow_succ]
  refine ev_eq (spec_l1Power.ev_l0 a ha n (m+1) (by omega)) ?_
  rw [Nat.add_right_comm,Nat.add_assoc]
theorem spec_l1Power.ev {a : Int} (ha : Byte a) (n : Nat) (hn : n < 4611686018427387904) : Ev (fun k=>spec_l1Power.f k a (n : Int)) (pow a n):=by
 unfold spec_l1Power.f
 have:=spec_l1Power.ev_l0 a ha n 0 hn
 rw [pow_zero,Nat.zero_add] at this
 exact this

theorem spec_l1Inverse.ev {a : Int} (ha : Byte a) : Ev (fun k=>spec_l1Inverse.f k a) (inv a):=by
 unfold spec_l1Inverse.f
 by_cases h : a=0
 ·subst h
  exact ev_pos rfl (ev_now inv_zero.symm)
 ·exact ev_neg h (ev_bind (spec_l1Power.ev ha 254 (by decide)) (ev_now (inv_pow a).symm))

theorem spec_l2Rank.ev {l : List (List Int)} (h : 1≤l.length) (hs : sqM l=true) : spec_l2Rank.f l=some (((rowI.red l (l.getD 0 []).length).2 : Nat) : Int):=by
 unfold spec_l2Rank.f
 rw [if_pos (by rw [hs,decide_eq_true h];rfl)]

def rankVal (l : List (List Int)) : Int × Bool:=if goodM l=true then (((rowI.red l (l.getD 0 []).length).2 : Nat),true) else (0,false)
theorem spec_RankOf.ev (l : List (List Int)) (hb : matBytes l) : Ev (fun k=>spec_RankOf.f k l) (rankVal l):=by
 unfold spec_RankOf.f rankVal
 refine ev_bind (spec_GoodMatrix.ev l) ?_
 by_cases h : goodM l=true
 ·simp only [if_pos h]
  rw [spec_l2Rank.ev (goodM_iff h).1.1 (sqM_good h hb)]
  exact ev_now rfl
 ·simp only [if_neg h]
  exact ev_now rfl

theorem impl_within.ev (a b c : Int) : impl_within.f a b c=some (decide (b≤a∧a≤c)):=by
 unfold impl_within.f
 by_cases h : a ≥ b
 ·rw [if_pos h];simp [h]
 ·rw [if_neg h];simp;omega

theorem impl_GoodMatrix.ev (l : List (List Int)) : impl_GoodMatrix.f l=some (goodM l):=rfl

theorem impl_added.ev_l0 (v w : List Int) (hv : Bytes v) (hw : Bytes w) (hl : v.length=w.length) (hs : v.length < 140737488355328) : ∀ (n i : Nat) (o : List Int),i+n=v.length→o=(addV v w).take i →
  Ev (fun k=>impl_added.l0 k w o v (v.length : Int) (i : Int)) (addV v w)
 | 0,i,o,hi,ho=>by
  refine Ev.step (fun k=>impl_added.l0.eq_2 _ _ _ _ _ k) ?_
  refine ev_neg (by omega) (ev_now ?_)
  subst ho
  rw [List.take_of_length_le (by rw [addV_length];omega)]
 | n+1,i,o,hi,ho=>by
  have hz:=addV_length v w
  have hlen : o.length=i:=by rw [ho,List.length_take,hz];omega
  refine Ev.step (fun k=>impl_added.l0.eq_2 _ _ _ _ _ k) ?_
  refine ev_pos (by omega) (ev_pos (by omega) (ev_pos (by omega) (ev_pos (by omega) (ev_pos (by omega) ?_))))
  rw [inc (by omega),xor_u8 (bytes_rd hv (by omega)) (bytes_rd hw (by omega)),rd_get (by omega),rd_get (by omega)]
  refine impl_added.ev_l0 v w hv hw hl hs n (i+1) _ (by omega) ?_
  rw [List.take_succ_eq_append_getElem (by omega),← ho]
  simp [addV]
theorem impl_added.ev {v w : List Int} (hv : Bytes v) (hw : Bytes w) (hl : v.length=w.length) (hs : v.length < 140737488355328) : Ev (fun k=>impl_added.f k v w) (addV v w):=by
 unfold impl_added.f
 exact impl_added.ev_l0 v w hv hw hl hs v.length 0 [] (by omega) rfl

theorem impl_scaled.ev_l0 (a : Int) (ha : Byte a) (v : List Int) (hv : Bytes v) (hs : v.length < 140737488355328) : ∀ (n i : Nat) (o : List Int),i+n=v.length→o=(scale a v).take i →
  Ev (fun k=>impl_scaled.l0 k a o v (v.length : Int) (i : Int)) (scale a v)
 | 0,i,o,hi,ho=>by
  refine Ev.step (fun k=>impl_scaled.l0.eq_2 _ _ _ _ _ k) ?_
  refine ev_neg (by omega) (ev_now ?_)
  subst ho
  rw [List.take_of_length_le (by rw [scale_length];omega)]
 | n+1,i,o,hi,ho=>by
  have hz:=scale_length a v
  have hlen : o.length=i:=by rw [ho,List.length_take,hz];omega
  refine Ev.step (fun k=>impl_scaled.l0.eq_2 _ _ _ _ _ k) ?_
  refine ev_pos (by omega) (ev_pos (by omega) (ev_pos (by omega) ?_))
  refine ev_bind (impl_Times.ev ha (bytes_rd hv (by omega))) ?_
  refine ev_pos (by omega) ?_
  rw [inc (by omega),rd_get (by omega)]
  refine impl_scaled.ev_l0 a ha v hv hs n (i+1) _ (by omega) ?_
  rw [List.take_succ_eq_append_getElem (by omega),← ho]
  simp [scale]
theorem impl_scaled.ev {a : Int} (ha : Byte a) {v : List Int} (hv : Bytes v) (hs : v.length < 140737488355328) : Ev (fun k=>impl_scaled.f k a v) (scale a v):=by
 unfold impl_scaled.f
 exact impl_scaled.ev_l0 a ha v hv hs v.length 0 [] (by omega) rfl

theorem impl_Inverse.ev {a : Int} (ha : Byte a) : Ev (fun k=>impl_Inverse.f k a) (inv a):=by
 unfold impl_Inverse.f
 exact ev_bind (impl_power.ev ha 254 (by decide)) (ev_now (inv_pow a).symm)

theorem impl_rankOf.ev {l : List (List Int)} (h : 1≤l.length) (hs : sqM l=true) : impl_rankOf.f l=some (((rowI.red l (l.getD 0 []).length).2 : Nat) : Int):=by
 unfold impl_rankOf.f
 rw [if_neg (by omega),if_pos hs]

theorem impl_RankOf.ev (l : List (List Int)) (hb : matBytes l) : impl_RankOf.f l=some (rankVal l):=by
 unfold impl_RankOf.f rankVal
 simp only [impl_GoodMatrix.ev,Option.bind_some]
 by_cases h : goodM l=true
 ·rw [if_pos h,if_pos h,impl_rankOf.ev (goodM_iff h).1.1 (sqM_good h hb)]
  rfl
 ·rw [if_neg h,if_neg h]

theorem spec_l2Blank.ev_l0 (n m : Nat) (hn : n≤1048576) (hm : m≤1048576) : ∀ (d i : Nat),i+d=n→Ev (fun k=>spec_l2Blank.l0 k (n : Int) (m : Int) (i : Int) (blankM i m)) (blankM n m)
 | 0,i,hi=>by
  obtain rfl : i=n:=by omega
  refine Ev.step (fun k=>spec_l2Blank.l0.eq_2 _ _ _ _ k) ?_
  exact ev_neg (by omega) (ev_now rfl)
 | d+1,i,hi=>by
  have ih:=spec_l2Blank.ev_l0 n m hn hm d (i+1) (by omega)
  refine Ev.step (fun k=>spec_l2Blank.l0.eq_2 _ _ _ _ k) ?_
  refine ev_pos (by omega) (ev_pos (by omega) (ev_pos (by omega) (ev_pos (by simp [blankM];omega) ?_)))
  rw [inc (by omega),Int.toNat_natCast]
  have e : blankM i m ++ [List.replicate m 0]=blankM (i+1) m:=by
   unfold blankM;rw [List.replicate_succ']
  rw [e]
  exact ih
theorem spec_l2Blank.ev (n m : Nat) (hn : n≤1048576) (hm : m≤1048576) : Ev (fun k=>spec_l2Blank.f k (n : Int) (m : Int)) (blankM n m):=by
 unfold spec_l2Blank.f
 exact spec_l2Blank.ev_l0 n m hn hm n 0 (by omega)

def idPart (n i : Nat) : List (List Int):=(List.range n).map fun j=>if j < i then (List.replicate n 0).set j 1 else List.replicate n 0
theorem idPart_length (n i : Nat) : (idPart n i).length=n:=by simp [idPart]
theorem idPart_zero (n : Nat) : idPart n 0=blankM n n:=by
 apply List.ext_getElem
 ·simp [idPart,blankM]
 ·intro j h1 h2;simp [idPart,blankM]
theorem idPart_all (n : Nat) : idPart n n=idM n:=by
 apply List.ext_getElem
 ·simp [idPart,idM]
 ·intro j h1 h2
  have : j < n:=by simpa [idPart] using h1
  simp [idPart,idM,this]
theorem idPart_succ (n i : Nat) (hi : i < n) : (idPart n i).set i ((List.replicate n 0).set i 1)=idPart n (i+1):=by
 apply List.ext_getElem
 ·simp [idPart]
 ·intro j h1 h2
  rw [List.getElem_set]
  by_cases e : i=j
  ·subst e
   simp [idPart]
  ·rw [if_neg e]
   simp only [idPart,List.getElem_map,List.getElem_range]
   by_cases h : j < i
   ·rw [if_pos h,if_pos (by omega)]
   ·rw [if_neg h,if_neg (by omega)]
theorem spec_l2Identity.ev_l0 (n : Nat) (hn : n≤1048576) : ∀ (d i : Nat),i+d=n→Ev (fun k=>spec_l2Identity.l0 k (n : Int) (i : Int) (idPart n i)) (idM n)
 | 0,i,hi=>by
  obtain rfl : i=n:=by omega
  refine Ev.step (fun k=>spec_l2Identity.l0.eq_2 _ _ _ k) ?_
  exact ev_neg (by omega) (ev_now (idPart_all i))
 | d+1,i,hi=>by
  have hl:=idPart_length n i
  have hg : rd_L1 (idPart n i) (i : Int)=List.replicate n 0:=by
   rw [rdSS _ i (by omega)]
   simp [idPart]
  have ih:=spec_l2Identity.ev_l0 n hn d (i+1) (by omega)
  refine Ev.step (fun k=>spec_l2Identity.l0.eq_2 _ _ _ k) ?_
  rw [hg]
  refine ev_pos (by omega) (ev_pos (by omega) (ev_pos (by omega) (ev_pos (by simp;omega) ?_)))
  rw [inc (by omega),Int.toNat_natCast,idPart_succ n i (by omega)]
  exact ih
theorem spec_l2Identity.ev (n : Nat) (hn : n≤1048576) : Ev (fun k=>spec_l2Identity.f k (n : Int)) (idM n):=by
 unfold spec_l2Identity.f
 refine ev_bind (spec_l2Blank.ev n n hn hn) ?_
 have e : ((blankM n n).length : Int)=(n : Int):=by simp [blankM]
 rw [e,← idPart_zero]
 exact spec_l2Identity.ev_l0 n hn n 0 (by omega)

theorem impl_inverseOf.ev {l : List (List Int)} (hs : sqN l=true) : impl_inverseOf.f l=some (invM l):=by
 unfold impl_inverseOf.f
 rw [if_pos hs]

theorem impl_InverseOf.ev (l : List (List Int)) (hb : matBytes l) : impl_InverseOf.f l=some (invVal l):=by
 unfold impl_InverseOf.f invVal
 simp only [impl_GoodMatrix.ev,Option.bind_some]
 by_cases h : goodM l=true
 ·have h1:=(goodM_iff h).1.1
  rw [if_pos h,if_pos (by omega)]
  by_cases e : l.length=(l.getD 0 []).length
  ·rw [if_pos (show goodM l=true∧l.length=(l.getD 0 []).length from ⟨h,e⟩)]
   refine (if_pos (by rw [rdSS0,Int.toNat_zero];omega)).trans ?_
   rw [impl_inverseOf.ev (sqN_good h hb e)]
   rfl
  ·rw [if_neg (show ¬ (goodM l=true∧l.length=(l.getD 0 []).length) from fun z=>e z.2)]
   exact if_neg (by rw [rdSS0,Int.toNat_zero];omega)
 ·rw [if_neg h,if_neg (fun z=>h z.1)]

theorem impl_dot.ev_l0 (v w : List Int) (hv : Bytes v) (hw : Bytes w) (hl : v.length=w.length) (hs : v.length < 140737488355328) : ∀ (n i : Nat) (o : Int),i+n=v.length→Byte o →
  Ev (fun k=>impl_dot.l0 k w o v (v.length : Int) (i : Int)) (gx o (dotV (v.drop i) (w.drop i)))
 | 0,i,o,hi,ho=>by
  refine Ev.step (fun k=>impl_dot.l0.eq_2 _ _ _ _ _ k) ?_
  refine ev_neg (by omega) (ev_now ?_)
  rw [List.drop_of_length_le (by omega)]
  exact (gx_zero ho).symm
 | n+1,i,o,hi,ho=>by
  refine Ev.step (fun k=>impl_dot.l0.eq_2 _ _ _ _ _ k) ?_
  refine ev_pos (by omega) (ev_pos (by omega) (ev_pos (by omega) (ev_pos (by omega) ?_)))
  have bv : Byte (rd v (i : Int)):=bytes_rd hv (by omega)
  have bw : Byte (rd w (i : Int)):=bytes_rd hw (by omega)
  refine ev_bind (impl_Times.ev bv bw) ?_
  have bm:=Byte.mul bv (rd w (i : Int))
  have bg:=Byte.gx ho bm
  rw [inc (by omega),xor_u8 ho bm]
  refine ev_eq (impl_dot.ev_l0 v w hv hw hl hs n (i+1) _ (by omega) bg) ?_
  rw [drop_cons (l:=v) (i:=i) (by omega),drop_cons (l:=w) (i:=i) (by omega),rd_get (by omega),rd_get (by omega),dotV,gx_assoc]
theorem impl_dot.ev {v w : List Int} (hv : Bytes v) (hw : Bytes w) (hl : v.length=w.length) (hs : v.length < 140737488355328) : Ev (fun k=>impl_dot.f k v w) (dotV v w):=by
 unfold impl_dot.f
 refine ev_eq (impl_dot.ev_l0 v w hv hw hl hs v.length 0 0 (by omega) .zero) ?_
 exact zero_gx (dotV_byte hv)

theorem impl_solve.ev_l0 (m : List (List Int)) (v : List Int) (hv : Bytes v) (hn : v.length≤1048576) (hr : ∀ r ∈ m,Bytes r∧r.length=v.length) (hl : m.length≤1048576) : ∀ (d i : Nat) (o : List Int),i+d=m.length→o=(applyM m v).take i →
  Ev (fun k=>impl_solve.l0 k v o m (m.length : Int) (i : Int)) (applyM m v,true)
 | 0,i,o,hi,ho=>by
  refine Ev.step (fun k=>impl_solve.l0.eq_2 _ _ _ _ _ k) ?_
  refine ev_neg (by omega) (ev_now ?_)
  rw [ho,List.take_of_length_le (by rw [applyM_length];omega)]
 | d+1,i,o,hi,ho=>by
  have hlen : o.length=i:=by rw [ho,List.length_take,applyM_length];omega
  have hri:=hr _ (List.getElem_mem (show i < m.length by omega))
  refine Ev.step (fun k=>impl_solve.l0.eq_2 _ _ _ _ _ k) ?_
  refine ev_pos (by omega) (ev_pos (by omega) (ev_pos (by omega) ?_))
  rw [rdSS _ i (by omega)]
  refine ev_bind (impl_dot.ev hri.1 hv hri.2 (by omega)) (ev_pos (by omega) ?_)
  rw [inc (by omega)]
  refine impl_solve.ev_l0 m v hv hn hr hl d (i+1) _ (by omega) ?_
  rw [List.take_succ_eq_append_getElem (by rw [applyM_length];omega),← ho]
  simp [applyM]
theorem impl_solve.ev {l : List (List Int)} {v : List Int} (hs : sqN l=true) (hv : Bytes v) (hn : v.length=l.length) : Ev (fun k=>impl_solve.f k l v) (if (invM l).2=true then (applyM (invM l).1 v,true) else ([],false)):=by
 unfold impl_solve.f
 rw [impl_inverseOf.ev hs]
 simp only [Option.bind_some]
 have hl:=(sqN_iff.1 hs).2.1
 obtain ⟨h1,h2,h3⟩:=invM_ok hs
 by_cases z : (invM l).2=true
 ·rw [if_pos z]
  refine ev_pos z ?_
  exact impl_solve.ev_l0 (invM l).1 v hv (by omega) (fun r hr=>⟨(h2 r hr).1,by rw [(h2 r hr).2,hn]⟩) (by omega) (invM l).1.length 0 [] (by omega) rfl
 ·rw [if_neg z]
  exact ev_neg z (ev_now rfl)

theorem impl_Solve.ev (l : List (List Int)) (hb : matBytes l) (v : List Int) (hv : Bytes v) : Ev (fun k=>impl_Solve.f k l v) (solveVal l v):=by
 unfold impl_Solve.f solveVal
 simp only [impl_GoodMatrix.ev,Option.bind_some,rdSS0,Int.toNat_zero]
 by_cases h : goodM l=true
 ·have h1:=(goodM_iff h).1.1
  refine ev_pos h (ev_pos (by omega) ?_)
  by_cases e : l.length=(l.getD 0 []).length
  ·have iv : invVal l=invM l:=by unfold invVal;rw [if_pos ⟨h,e⟩]
   rw [iv]
   refine ev_pos (by omega) ?_
   by_cases e2 : v.length=l.length
   ·refine ev_pos (by omega) (ev_bind (impl_solve.ev (sqN_good h hb e) hv e2) (ev_now ?_))
    by_cases z : (invM l).2=true
    ·rw [if_pos z,if_pos ⟨z,e2⟩]
    ·rw [if_neg z,if_neg (fun y=>z y.1)]
   ·rw [if_neg (fun y=>e2 y.2)]
    exact ev_neg (by omega) (ev_now rfl)
  ·have iv : invVal l=([],false):=by unfold invVal;rw [if_neg (fun z=>e z.2)]
   rw [iv,if_neg (fun y=>by cases y.1)]
   exact ev_neg (by omega) (ev_now rfl)
 ·have iv : invVal l=([],false):=by unfold invVal;rw [if_neg (fun z=>h z.1)]
  rw [iv,if_neg (fun y=>by cases y.1)]
  exact ev_neg h (ev_now rfl)

theorem low255 (y : Int) : 0≤wrap64 (Go.bits .and .u64 y 255)∧wrap64 (Go.bits .and .u64 y 255)≤255:=by
 have e : Go.bits .and .u64 y 255=IntKind.u64.wrap (((BitVec.ofInt 64 y &&& BitVec.ofInt 64 255).toNat : Nat) : Int):=rfl
 have h : (BitVec.ofInt 64 y &&& BitVec.ofInt 64 255).toNat≤255:=by
  rw [BitVec.toNat_and]
  exact Nat.le_trans Nat.and_le_right (by decide)
 rw [e]
 generalize (BitVec.ofInt 64 y &&& BitVec.ofInt 64 255).toNat=n at h
 have e2 : IntKind.u64.wrap (n : Int)=(n : Int):=by
  first
   | (rw [IntKind.wrap_u64];omega)
   | (simp [IntKind.wrap,IntKind.bits,IntKind.signed];omega)
 rw [e2,wrap_id (by omega) (by omega)]
 omega
theorem spec_l1Cur_next.some_ {s : List Int} (hs : Bytes s) {a z : Int} (h0 : 0≤a) (h1 : a≤4611686018427387904) : ∃ x z',spec_l1Cur_next.f s a z=some (x,a+1,z')∧0≤x∧x≤255:=by
 unfold spec_l1Cur_next.f
 have e : wrap64 (a+1)=a+1:=wrap_id (by omega) (by omega)
 rw [e]
 by_cases c1 : a < (s.length : Int)
 ·rw [if_pos c1,if_pos h0,if_pos (show a+1≤(s.length : Int) by omega)]
  refine ⟨_,_,rfl,?_⟩
  have hb : Byte (rd s a):=by
   obtain ⟨i,rfl⟩:=Int.eq_ofNat_of_zero_le h0
   have hi : i < s.length:=by omega
   rw [rd_nat,List.getD_eq_getElem?_getD,List.getElem?_eq_getElem hi]
   exact hs _ (List.getElem_mem hi)
  have hb1:=hb.1
  have hb2:=hb.2
  rw [wrap_id hb1 (by omega)]
  omega
 ·rw [if_neg c1,if_neg (show ¬ a+1≤(s.length : Int) by omega)]
  exact ⟨_,_,rfl,low255 _⟩

theorem spec_l1Cur_pick.some_ {s : List Int} (hs : Bytes s) {a z n : Int} (h0 : 0≤a) (h1 : a≤4611686018427387000) (hn : 1≤n) : ∃ x b z',spec_l1Cur_pick.f s a z n=some (x,b,z')∧0≤x∧x < n∧a≤b∧b≤a+2:=by
 unfold spec_l1Cur_pick.f
 by_cases c1 : n≤1
 ·rw [if_pos c1]
  exact ⟨_,_,_,rfl,by omega,by omega,by omega,by omega⟩
 ·rw [if_neg c1]
  obtain ⟨x,z1,e,hx0,hx1⟩:=spec_l1Cur_next.some_ hs (z:=z) h0 (by omega)
  rw [e,Option.bind_some]
  dsimp only
  by_cases c2 : n > 200
  ·rw [if_pos c2]
   obtain ⟨y,z2,e2,hy0,hy1⟩:=spec_l1Cur_next.some_ hs (a:=a+1) (z:=z1) (by omega) (by omega)
   rw [e2,Option.bind_some,if_neg (by omega)]
   refine ⟨_,a+1+1,_,rfl,?_,Int.tmod_lt_of_pos _ (by omega),by omega,by omega⟩
   rw [wrap_id (i:=x*256) (by omega) (by omega),wrap_id (by omega) (by omega)]
   exact Int.tmod_nonneg _ (by omega)
  ·rw [if_neg c2,if_neg (by omega)]
   exact ⟨_,a+1,_,rfl,Int.tmod_nonneg _ hx0,Int.tmod_lt_of_pos _ (by omega),by omega,by omega⟩

theorem spec_l1Cur_one.some_ {s : List Int} (hs : Bytes s) {a z n : Int} (h0 : 0≤a) (h1 : a≤4611686018427387000) (hn : 1≤n) : ∃ x b z',spec_l1Cur_one.f s a z n=some (x,b,z')∧a≤b∧b≤a+2:=by
 unfold spec_l1Cur_one.f
 obtain ⟨x,b,z1,e,hx0,hx1,hb0,hb1⟩:=spec_l1Cur_pick.some_ hs (z:=z) h0 h1 hn
 rw [e,Option.bind_some]
 exact ⟨_,_,_,rfl,hb0,hb1⟩

theorem spec_l1Cur_among.some_ {s : List Int} (hs : Bytes s) {a z : Int} {l : List Int} (h0 : 0≤a) (h1 : a≤4611686018427387000) (hl : 1≤l.length) : ∃ x b z',spec_l1Cur_among.f s a z l=some (x,b,z')∧a≤b∧b≤a+2:=by
 unfold spec_l1Cur_among.f
 obtain ⟨x,b,z1,e,hx0,hx1,hb0,hb1⟩:=spec_l1Cur_pick.some_ hs (z:=z) (n:=(l.length : Int)) h0 h1 (by omega)
 rw [e,Option.bind_some,if_pos hx0,if_pos hx1]
 exact ⟨_,_,_,rfl,hb0,hb1⟩

theorem spec_l1Cur_among.in_ {s : List Int} (hs : Bytes s) {a z : Int} {l : List Int} (h0 : 0≤a) (h1 : a≤4611686018427387000) (hl : 1≤l.length) : ∃ x b z',spec_l1Cur_among.f s a z l=some (x,b,z')∧x ∈ l∧a≤b∧b≤a+2:=by
 unfold spec_l1Cur_among.f
 obtain ⟨x,b,z1,e,hx0,hx1,hb0,hb1⟩:=spec_l1Cur_pick.some_ hs (z:=z) (n:=(l.length : Int)) h0 h1 (by omega)
 rw [e,Option.bind_some,if_pos hx0,if_pos hx1]
 obtain ⟨i,rfl⟩:=Int.eq_ofNat_of_zero_le hx0
 have hi : i < l.length:=by omega
 refine ⟨_,_,_,rfl,?_,hb0,hb1⟩
 rw [rd_get hi]
 exact List.getElem_mem hi
theorem spec_l1Cur_side.some_ {s : List Int} (hs : Bytes s) {a z : Int} (h0 : 0≤a) (h1 : a≤4611686018427380000) : ∃ x b z',spec_l1Cur_side.f s a z=some (x,b,z')∧0≤x∧x≤17∧a≤b∧b≤a+4:=by
 unfold spec_l1Cur_side.f
 obtain ⟨x,b,z1,e,hb0,hb1⟩:=spec_l1Cur_one.some_ hs (z:=z) (n:=30) h0 (by omega) (by decide)
 rw [e,Option.bind_some]
 dsimp only
 cases x with
 | true =>
  obtain ⟨y,c,z2,e2,hy,hc0,hc1⟩:=spec_l1Cur_among.in_ hs (a:=b) (z:=z1) (l:=[0,16,17]) (by omega) (by omega) (by decide)
  rw [if_pos rfl,e2,Option.bind_some]
  refine ⟨y,c,z2,rfl,?_,?_,by omega,by omega⟩
  ·simp at hy;omega
  ·simp at hy;omega
 | false =>
  obtain ⟨y,c,z2,e2,hy0,hy1,hc0,hc1⟩:=spec_l1Cur_pick.some_ hs (a:=b) (z:=z1) (n:=4) (by omega) (by omega) (by decide)
  rw [if_neg (by decide),e2,Option.bind_some]
  refine ⟨_,c,z2,rfl,?_,?_,by omega,by omega⟩
  ·show 0≤wrap64 (1+y);rw [wrap_id (by omega) (by omega)];omega
  ·show wrap64 (1+y)≤17;rw [wrap_id (by omega) (by omega)];omega

theorem spec_l1Cur_byte.some_ {s : List Int} (hs : Bytes s) {a z : Int} (h0 : 0≤a) (h1 : a≤4611686018427386000) : ∃ x b z',spec_l1Cur_byte.f s a z=some (x,b,z')∧Byte x∧a≤b∧b≤a+4:=by
 unfold spec_l1Cur_byte.f
 obtain ⟨x,b,z1,e,hb0,hb1⟩:=spec_l1Cur_one.some_ hs (z:=z) (n:=5) h0 (by omega) (by decide)
 rw [e,Option.bind_some]
 dsimp only
 have hm : ∀ v : Int,Byte (v % 256):=fun v=>⟨Int.emod_nonneg _ (by decide),Int.emod_lt_of_pos _ (by decide)⟩
 cases x with
 | true =>
  obtain ⟨y,c,z2,e2,hc0,hc1⟩:=spec_l1Cur_among.some_ hs (a:=b) (z:=z1) (l:=[0,1,2,3,255,27]) (by omega) (by omega) (by decide)
  rw [if_pos rfl,e2,Option.bind_some]
  exact ⟨_,c,_,rfl,hm _,by omega,by omega⟩
 | false =>
  obtain ⟨y,c,z2,e2,_,_,hc0,hc1⟩:=spec_l1Cur_pick.some_ hs (a:=b) (z:=z1) (n:=256) (by omega) (by omega) (by decide)
  rw [if_neg (by decide),e2,Option.bind_some]
  exact ⟨_,c,_,rfl,hm _,by omega,by omega⟩

set_option maxRecDepth 4000 in
theorem spec_l1Cur_vector.some_l0 {s : List Int} (hs : Bytes s) : ∀ (n : Nat) (o : List Int) (a z : Int),n≤100→0≤a→a+4*n≤4611686018427380000→o.length+n≤200→∃ r b z',Ev (fun k=>spec_l1Cur_vector.l0 k (n : Int) o s a z) (o ++ r,b,z')∧Bytes r∧r.length=n∧a≤b∧b≤a+4*n
 | 0,o,a,z,_,h0,h1,_=>by
  refine ⟨[],a,z,?_,fun x hx=>(by cases hx),rfl,by omega,by omega⟩
  refine Ev.step (fun k=>spec_l1Cur_vector.l0.eq_2 _ _ _ _ _ k) ?_
  refine ev_neg (by omega) (ev_now ?_)
  rw [List.append_nil]
 | n+1,o,a,z,hn,h0,h1,ho=>by
  obtain ⟨x,b,z1,e,hx,hb0,hb1⟩:=spec_l1Cur_byte.some_ hs (a:=a) (z:=z) h0 (by omega)
  obtain ⟨r,c,z2,he,hr,hrl,hc0,hc1⟩:=spec_l1Cur_vector.some_l0 hs n (o ++ [x]) b z1 (by omega) (by omega) (by omega) (by rw [List.length_append];simp;omega)
  refine ⟨x :: r,c,z2,?_,fun y hy=>?_,by rw [List.length_cons,hrl],by omega,by omega⟩
  ·refine Ev.step (fun k=>spec_l1Cur_vector.l0.eq_2 _ _ _ _ _ k) ?_
   refine ev_pos (by omega) ?_
   rw [e]
   simp only [Option.bind_some]
   refine ev_pos (by omega) ?_
   rw [show wrap64 (((n+1 : Nat) : Int) - 1)=(n : Int) by rw [wrap_id (by omega) (by omega)];omega]
   rw [List.append_assoc] at he
   exact he
  ·rcases List.mem_cons.1 hy with rfl | h
   ·exact hx
   ·exact hr y h
theorem spec_l1Cur_vector.some_ {s : List Int} (hs : Bytes s) {n a z : Int} (hn0 : 0≤n) (hn : n≤100) (h0 : 0≤a) (h1 : a≤4611686018427370000) : ∃ r b z',Ev (fun k=>spec_l1Cur_vector.f k s a z n) (r,b,z')∧Bytes r∧a≤b∧b≤a+400:=by
 obtain ⟨m,rfl⟩:=Int.eq_ofNat_of_zero_le hn0
 obtain ⟨r,b,z',he,hr,_,hb0,hb1⟩:=spec_l1Cur_vector.some_l0 hs m [] a z (by omega) h0 (by omega) (by simp;omega)
 exact ⟨r,b,z',he,hr,hb0,by omega⟩

theorem matBytes_snoc {m : List (List Int)} {r : List Int} (h : matBytes m) (hr : Bytes r) : matBytes (m ++ [r]):=by
 intro x hx
 rcases List.mem_append.1 hx with h2 | h2
 ·exact h x h2
 ·simp at h2;subst h2;exact hr
theorem matBytes_set {m : List (List Int)} {r : List Int} (h : matBytes m) (hr : Bytes r) (i : Nat) : matBytes (m.set i r):=by
 intro x hx
 rcases List.mem_or_eq_of_mem_set hx with h2 | h2
 ·exact h x h2
 ·subst h2;exact hr
theorem rowsLe_snoc {n : Nat} {m : List (List Int)} {r : List Int} (h : ∀ x ∈ m,x.length≤n) (hr : r.length≤n) : ∀ x ∈ m ++ [r],x.length≤n:=by
 intro x hx
 rcases List.mem_append.1 hx with h2 | h2
 ·exact h x h2
 ·simp at h2;subst h2;exact hr
theorem rowsLe_set {n : Nat} {m : List (List Int)} {r : List Int} (h : ∀ x ∈ m,x.length≤n) (hr : r.length≤n) (i : Nat) : ∀ x ∈ m.set i r,x.length≤n:=by
 intro x hx
 rcases List.mem_or_eq_of_mem_set hx with h2 | h2
 ·exact h x h2
 ·subst h2;exact hr
theorem getD_mem {m : List (List Int)} {i : Nat} (h : i < m.length) : m.getD i [] ∈ m:=by
 rw [List.getD_eq_getElem?_getD,List.getElem?_eq_getElem h]
 exact List.getElem_mem h
theorem spec_l1Cur_matrix.some_j2 {s : List Int} (hs : Bytes s) {a z : Int} (h0 : 0≤a) (h1 : a≤4611686018427360100) (m : List (List Int)) (hm : matBytes m) (hr : ∀ x ∈ m,x.length≤100) :
  ∃ q b z',Ev (fun k=>spec_l1Cur_matrix.j2 k s a z m) (q,b,z')∧matBytes q∧q.length=m.length∧(∀ x ∈ q,x.length≤101)∧a≤b∧b≤a+2:=by
 have hr1 : ∀ x ∈ m,x.length≤101:=fun x hx=>by have:=hr x hx;omega
 by_cases c : m.length=0
 ·refine ⟨m,a,z,?_,hm,rfl,hr1,by omega,by omega⟩
  refine Ev.step (fun k=>spec_l1Cur_matrix.j2.eq_2 _ _ _ _ k) ?_
  exact ev_neg (by omega) (ev_now rfl)
 ·obtain ⟨x,b,z1,e,hb0,hb1⟩:=spec_l1Cur_one.some_ hs (a:=a) (z:=z) (n:=40) h0 (by omega) (by decide)
  have hm0:=getD_mem (m:=m) (i:=0) (by omega)
  have hl0:=hr _ hm0
  cases x with
  | true =>
   refine ⟨m.set 0 (m.getD 0 [] ++ [1]),b,z1,?_,matBytes_set hm ((hm _ hm0).append (Bytes.one .one)) 0,by rw [List.length_set],rowsLe_set hr1 (by simp only [List.length_append,List.length_singleton];omega) 0,hb0,hb1⟩
   refine Ev.step (fun k=>spec_l1Cur_matrix.j2.eq_2 _ _ _ _ k) ?_
   refine ev_pos (by omega) ?_
   rw [e]
   simp only [Option.bind_some,rdSS0,Int.toNat_zero]
   exact ev_pos trivial (ev_pos (by omega) (ev_pos (by omega) (ev_now rfl)))
  | false =>
   refine ⟨m,b,z1,?_,hm,rfl,hr1,hb0,hb1⟩
   refine Ev.step (fun k=>spec_l1Cur_matrix.j2.eq_2 _ _ _ _ k) ?_
   refine ev_pos (by omega) ?_
   rw [e]
   simp only [Option.bind_some]
   exact ev_neg (by decide) (ev_now rfl)
theorem spec_l1Cur_matrix.some_j1 {s : List Int} (hs : Bytes s) {a z : Int} (h0 : 0≤a) (h1 : a≤4611686018427360100) (m : List (List Int)) (hm : matBytes m) (hr : ∀ x ∈ m,x.length≤100) (q : Bool) (hq : q=true→1 < m.length) :
  ∃ t b z',Ev (fun k=>spec_l1Cur_matrix.j1 k q s a z m) (t,b,z')∧matBytes t∧t.length=m.length∧(∀ x ∈ t,x.length≤101)∧a≤b∧b≤a+2:=by
 cases q with
 | true =>
  have hl:=hq rfl
  have hm1:=getD_mem (m:=m) (i:=1) (by omega)
  have hl1:=hr _ hm1
  obtain ⟨t,b,z',e,h2,h3,h4,h5,h6⟩:=spec_l1Cur_matrix.some_j2 hs (z:=z) h0 h1 (m.set 0 (m.getD 1 [])) (matBytes_set hm (hm _ hm1) 0) (rowsLe_set hr hl1 0)
  refine ⟨t,b,z',?_,h2,by rw [h3,List.length_set],h4,h5,h6⟩
  refine Ev.step (fun k=>spec_l1Cur_matrix.j1.eq_2 _ _ _ _ _ k) ?_
  refine ev_pos rfl ?_
  simp only [Option.bind_some,List.nil_append,rdSS0,show (1 : Int).toNat=1 from rfl,Int.toNat_zero]
  have hy : (m.set 0 (m.getD 1 [])).length=m.length:=List.length_set
  exact ev_pos (by omega) (ev_pos (by first | omega | (simp only [List.length_nil];omega)) (ev_pos (by first | omega | (simp only [List.length_nil];omega)) e))
 | false =>
  obtain ⟨t,b,z',e,h2,h3,h4,h5,h6⟩:=spec_l1Cur_matrix.some_j2 hs (z:=z) h0 h1 m hm hr
  refine ⟨t,b,z',?_,h2,h3,h4,h5,h6⟩
  refine Ev.step (fun k=>spec_l1Cur_matrix.j1.eq_2 _ _ _ _ _ k) ?_
  exact ev_neg (by decide) e
theorem spec_l1Cur_vector.some_n {s : List Int} (hs : Bytes s) {a z : Int} (n : Nat) (hn : n≤100) (h0 : 0≤a) (h1 : a≤4611686018427370000) : ∃ r b z',Ev (fun k=>spec_l1Cur_vector.f k s a z (n : Int)) (r,b,z')∧Bytes r∧r.length=n∧a≤b∧b≤a+400:=by
 obtain ⟨r,b,z',he,hr,hl,hb0,hb1⟩:=spec_l1Cur_vector.some_l0 hs n [] a z hn h0 (by omega) (by simp;omega)
 exact ⟨r,b,z',he,hr,hl,hb0,by omega⟩
theorem spec_l1Cur_matrix.some_l0 {s : List Int} (hs : Bytes s) (c : Nat) (hc : c≤100) : ∀ (n : Nat) (o : List (List Int)) (a z : Int),0≤a→a+400*n≤4611686018427360000→matBytes o→(∀ x ∈ o,x.length≤100)→o.length+n≤1000 →
  ∃ t b z',Ev (fun k=>spec_l1Cur_matrix.l0 k (n : Int) (c : Int) s a z o) (t,b,z')∧matBytes t∧t.length=o.length+n∧(∀ x ∈ t,x.length≤101)∧a≤b∧b≤a+400*n+4
 | 0,o,a,z,h0,h1,ho,hr,hl=>by
  by_cases cl : 1 < o.length
  ·obtain ⟨x,b,z1,e,hb0,hb1⟩:=spec_l1Cur_one.some_ hs (a:=a) (z:=z) (n:=6) h0 (by omega) (by decide)
   obtain ⟨t,d,z2,e2,h2,h3,h4,h5,h6⟩:=spec_l1Cur_matrix.some_j1 hs (a:=b) (z:=z1) (by omega) (by omega) o ho hr x (fun _=>cl)
   refine ⟨t,d,z2,?_,h2,by omega,h4,by omega,by omega⟩
   refine Ev.step (fun k=>spec_l1Cur_matrix.l0.eq_2 _ _ _ _ _ _ k) ?_
   refine ev_neg (by omega) (ev_pos (by omega) ?_)
   rw [e]
   simp only [Option.bind_some]
   exact e2
  ·obtain ⟨t,d,z2,e2,h2,h3,h4,h5,h6⟩:=spec_l1Cur_matrix.some_j1 hs (z:=z) h0 (by omega) o ho hr false (fun q=>by cases q)
   refine ⟨t,d,z2,?_,h2,by omega,h4,by omega,by omega⟩
   refine Ev.step (fun k=>spec_l1Cur_matrix.l0.eq_2 _ _ _ _ _ _ k) ?_
   exact ev_neg (by omega) (ev_neg (by omega) e2)
 | n+1,o,a,z,h0,h1,ho,hr,hl=>by
  obtain ⟨r,b,z1,e,hr1,hr2,hb0,hb1⟩:=spec_l1Cur_vector.some_n hs (z:=z) c hc h0 (by omega)
  obtain ⟨t,d,z2,e2,h2,h3,h4,h5,h6⟩:=spec_l1Cur_matrix.some_l0 hs c hc n (o ++ [r]) b z1 (by omega) (by omega) (matBytes_snoc ho hr1) (rowsLe_snoc hr (by omega)) (by rw [List.length_append];simp;omega)
  rw [List.length_append] at h3
  simp at h3
  refine ⟨t,d,z2,?_,h2,by omega,h4,by omega,by omega⟩
  refine Ev.step (fun k=>spec_l1Cur_matrix.l0.eq_2 _ _ _ _ _ _ k) ?_
  refine ev_pos (by omega) (ev_bind e (ev_pos (by omega) ?_))
  rw [show wrap64 (((n+1 : Nat) : Int) - 1)=(n : Int) by rw [wrap_id (by omega) (by omega)];omega]
  exact e2
theorem spec_l1Cur_matrix.some_ {s : List Int} (hs : Bytes s) {a z n c : Int} (hn0 : 0≤n) (hn : n≤100) (hc0 : 0≤c) (hc : c≤100) (h0 : 0≤a) (h1 : a≤4611686018427300000) :
  ∃ t b z',Ev (fun k=>spec_l1Cur_matrix.f k s a z n c) (t,b,z')∧matBytes t∧(t.length : Int)=n∧(∀ x ∈ t,x.length≤101)∧a≤b∧b≤a+50000:=by
 obtain ⟨i,rfl⟩:=Int.eq_ofNat_of_zero_le hn0
 obtain ⟨j,rfl⟩:=Int.eq_ofNat_of_zero_le hc0
 obtain ⟨t,b,z',e,h2,h3,h4,h5,h6⟩:=spec_l1Cur_matrix.some_l0 hs j (by omega) i [] a z h0 (by omega) (fun x hx=>by cases hx) (fun x hx=>by cases hx) (by simp;omega)
 simp at h3
 exact ⟨t,b,z',e,h2,by omega,h4,h5,by omega⟩

theorem spec_DrawSolve.some_ {s : List Int} (hs : Bytes s) : ∃ m v,Ev (fun k=>spec_DrawSolve.f k s) (m,v)∧matBytes m∧Bytes v:=by
 obtain ⟨n,a1,z1,e1,hn0,hn1,ha0,ha1⟩:=spec_l1Cur_side.some_ hs (a:=0) (z:=0) (by decide) (by decide)
 obtain ⟨q,a2,z2,e2,hb0,hb1⟩:=spec_l1Cur_one.some_ hs (a:=a1) (z:=z1) (n:=12) (by omega) (by omega) (by decide)
 obtain ⟨m,a3,z3,e3,hm,hml,hmr,hc0,hc1⟩:=spec_l1Cur_matrix.some_ hs (a:=a2) (z:=z2) (n:=n) (c:=n) hn0 (by omega) hn0 (by omega) (by omega) (by omega)
 have hw : wrap64 (n+1)=n+1:=wrap_id (by omega) (by omega)
 cases q with
 | true =>
  obtain ⟨v,a4,z4,e4,hv,_,_⟩:=spec_l1Cur_vector.some_ hs (n:=n+1) (a:=a3) (z:=z3) (by omega) (by omega) (by omega) (by omega)
  refine ⟨m,v,?_,hm,hv⟩
  unfold spec_DrawSolve.f spec_DrawSolve.g
  rw [e1]
  simp only [Option.bind_some]
  rw [e2]
  simp only [Option.bind_some,if_true]
  rw [hw]
  exact ev_bind (ev_bind e3 (ev_bind e4 (ev_now rfl))) (ev_now rfl)
 | false =>
  obtain ⟨v,a4,z4,e4,hv,_,_⟩:=spec_l1Cur_vector.some_ hs (n:=n) (a:=a3) (z:=z3) hn0 (by omega) (by omega) (by omega)
  refine ⟨m,v,?_,hm,hv⟩
  unfold spec_DrawSolve.f spec_DrawSolve.g
  rw [e1]
  simp only [Option.bind_some]
  rw [e2]
  simp only [Option.bind_some]
  exact ev_bind (ev_neg (by decide) (ev_bind e3 (ev_bind e4 (ev_now rfl)))) (ev_now rfl)

theorem laws_sameBytes.ev (l : List Int) : laws_sameBytes.f l l=some true:=by
 unfold laws_sameBytes.f
 rw [beq_self_eq_true]

theorem laws_sameMatrices.ev_l0 (m : List (List Int)) (hm : m.length≤1048576) : ∀ (d i : Nat),i+d=m.length→Ev (fun k=>laws_sameMatrices.l0 k (m.length : Int) (i : Int) m m) true
 | 0,i,hi=>by
  refine Ev.step (fun k=>laws_sameMatrices.l0.eq_2 _ _ _ _ k) ?_
  exact ev_neg (by omega) (ev_now rfl)
 | d+1,i,hi=>by
  refine Ev.step (fun k=>laws_sameMatrices.l0.eq_2 _ _ _ _ k) ?_
  simp only [laws_sameBytes.ev,Option.bind_some]
  refine ev_pos (by omega) (ev_pos (by omega) (ev_pos (by omega) (ev_pos (by omega) (ev_pos trivial ?_))))
  rw [inc (by omega)]
  exact laws_sameMatrices.ev_l0 m hm d (i+1) (by omega)
theorem laws_sameMatrices.ev (m : List (List Int)) (hm : m.length≤1048576) : Ev (fun k=>laws_sameMatrices.f k m m) true:=by
 unfold laws_sameMatrices.f
 exact ev_pos rfl (laws_sameMatrices.ev_l0 m hm m.length 0 (by omega))

theorem impl_column.ev_l0 (l : List (List Int)) (c j : Nat) (hl : l.length≤1048576) (hj : j < c) (hc : ∀ i,i < l.length→(l.getD i []).length=c) : ∀ (d i : Nat) (o : List Int),i+d=l.length→o=(List.range i).map (fun b=>(l.getD b []).getD j 0) →
  Ev (fun k=>impl_column.l0 k (j : Int) o l (l.length : Int) (i : Int)) ((List.range l.length).map fun b=>(l.getD b []).getD j 0)
 | 0,i,o,hi,ho=>by
  refine Ev.step (fun k=>impl_column.l0.eq_2 _ _ _ _ _ k) ?_
  refine ev_neg (by omega) (ev_now ?_)
  rw [ho,show i=l.length by omega]
 | d+1,i,o,hi,ho=>by
  have e:=hc i (by omega)
  have hol : o.length=i:=by rw [ho];simp
  refine Ev.step (fun k=>impl_column.l0.eq_2 _ _ _ _ _ k) ?_
  simp only [rdSS0,Int.toNat_natCast]
  refine ev_pos (by omega) (ev_pos (by omega) (ev_pos (by omega) (ev_pos (by omega) (ev_pos (by omega) (ev_pos (by omega) ?_)))))
  rw [inc (by omega)]
  refine impl_column.ev_l0 l c j hl hj hc d (i+1) _ (by omega) ?_
  rw [ho,List.range_succ,List.map_append,rd_nat]
  rfl
theorem impl_column.ev (l : List (List Int)) (c j : Nat) (hl : l.length≤1048576) (hj : j < c) (hc : ∀ i,i < l.length→(l.getD i []).length=c) : Ev (fun k=>impl_column.f k l (j : Int)) ((List.range l.length).map fun b=>(l.getD b []).getD j 0):=by
 unfold impl_column.f
 exact impl_column.ev_l0 l c j hl hj hc l.length 0 [] (by omega) rfl

theorem impl_transposed.ev_l0 (l : List (List Int)) (hg : goodM l=true) : ∀ (d j : Nat) (o : List (List Int)),j+d=(l.getD 0 []).length→o=tab j l.length (fun j i=>(l.getD i []).getD j 0) →
  Ev (fun k=>impl_transposed.l0 k l o ((l.getD 0 []).length : Int) (j : Int)) (trM l)
 | 0,j,o,hj,ho=>by
  refine Ev.step (fun k=>impl_transposed.l0.eq_2 _ _ _ _ k) ?_
  refine ev_neg (by omega) (ev_now ?_)
  rw [ho,show j=(l.getD 0 []).length by omega]
  rfl
 | d+1,j,o,hj,ho=>by
  have hf:=goodM_iff hg
  have hol : o.length=j:=by rw [ho,tab_length]
  refine Ev.step (fun k=>impl_transposed.l0.eq_2 _ _ _ _ k) ?_
  refine ev_pos (by omega) (ev_bind (impl_column.ev l _ j (by omega) (by omega) hf.2.2) (ev_pos (by omega) ?_))
  rw [inc (by omega)]
  refine impl_transposed.ev_l0 l hg d (j+1) _ (by omega) ?_
  rw [ho]
  unfold tab
  rw [List.range_succ,List.map_append]
  rfl
theorem impl_transposed.ev (l : List (List Int)) (hg : goodM l=true) : Ev (fun k=>impl_transposed.f k l) (trM l):=by
 have hf:=goodM_iff hg
 unfold impl_transposed.f
 refine ev_pos (by omega) ?_
 simp only [rdSS0,Int.toNat_zero]
 exact impl_transposed.ev_l0 l hg (l.getD 0 []).length 0 [] (by omega) rfl

theorem impl_Transposed.ev (l : List (List Int)) : Ev (fun k=>impl_Transposed.f k l) (transVal l):=by
 unfold impl_Transposed.f transVal
 simp only [impl_GoodMatrix.ev,Option.bind_some]
 by_cases h : goodM l=true
 ·rw [if_pos h]
  exact ev_pos h (ev_bind (impl_transposed.ev l h) (ev_now rfl))
 ·rw [if_neg h]
  exact ev_neg h (ev_now rfl)

theorem impl_product.ev_l1 (a b : List (List Int)) (ha : matBytes a) (hb : matBytes b) (hg : goodM a=true) (hg2 : goodM b=true) (hp : (a.getD 0 []).length=b.length) (i : Nat) (hi : i < a.length) (out : List (List Int)) (ho : out.length < 5864062014805) {R : List (List Int)}
  (K : Ev (fun q=>impl_product.l0 q (trM b) (out ++ [(List.range (b.getD 0 []).length).map fun j=>prodAt a b i j b.length]) a (a.length : Int) (wrap64 ((i : Int)+1))) R) : ∀ (d j : Nat) (o : List Int),j+d=(b.getD 0 []).length→o=(List.range j).map (fun j=>prodAt a b i j b.length) →
  Ev (fun q=>impl_product.l1 q (trM b) out (a.getD i []) o a (a.length : Int) (i : Int) (trM b) ((trM b).length : Int) (j : Int)) R
 | 0,j,o,hj,hoj=>by
  have hl : (trM b).length=(b.getD 0 []).length:=tab_length _ _ _
  refine Ev.step (fun q=>impl_product.l1.eq_2 _ _ _ _ _ _ _ _ _ _ q) ?_
  refine ev_neg (by omega) (ev_pos ho ?_)
  rw [hoj,show j=(b.getD 0 []).length by omega]
  exact K
 | d+1,j,o,hj,hoj=>by
  have hl : (trM b).length=(b.getD 0 []).length:=tab_length _ _ _
  have hf:=goodM_iff hg2
  have hf1:=goodM_iff hg
  have e:=hf1.2.2 i hi
  have hol : o.length=j:=by rw [hoj];simp
  have hrow : (trM b).getD j []=(List.range b.length).map fun k=>(b.getD k []).getD j 0:=tab_getD (by omega)
  refine Ev.step (fun q=>impl_product.l1.eq_2 _ _ _ _ _ _ _ _ _ _ q) ?_
  simp only [rdSS0,Int.toNat_natCast]
  refine ev_pos (by omega) (ev_pos (by omega) (ev_pos (by omega) ?_))
  rw [hrow]
  have hd:=impl_dot.ev (v:=a.getD i []) (w:=(List.range b.length).map fun k=>(b.getD k []).getD j 0) (matBytes_row ha i) (fun z hz=>by
   simp only [List.mem_map] at hz
   obtain ⟨k,_,rfl⟩:=hz
   exact matBytes_get hb k j) (by rw [List.length_map,List.length_range];omega) (by omega)
  rw [prodM_dot ha (by omega)] at hd
  refine ev_bind hd (ev_pos (by omega) ?_)
  rw [inc (by omega)]
  refine impl_product.ev_l1 a b ha hb hg hg2 hp i hi out ho K d (j+1) _ (by omega) ?_
  rw [hoj,List.range_succ,List.map_append]
  rfl
theorem impl_product.ev_l0 (a b : List (List Int)) (ha : matBytes a) (hb : matBytes b) (hg : goodM a=true) (hg2 : goodM b=true) (hp : (a.getD 0 []).length=b.length) : ∀ (d i : Nat) (o : List (List Int)),i+d=a.length→o=tab i (b.getD 0 []).length (fun i j=>prodAt a b i j b.length) →
  Ev (fun q=>impl_product.l0 q (trM b) o a (a.length : Int) (i : Int)) (prodM a b)
 | 0,i,o,hi,ho=>by
  refine Ev.step (fun q=>impl_product.l0.eq_2 _ _ _ _ _ q) ?_
  refine ev_neg (by omega) (ev_now ?_)
  rw [ho,show i=a.length by omega]
  rfl
 | d+1,i,o,hi,ho=>by
  have hf1:=goodM_iff hg
  have hol : o.length=i:=by rw [ho,tab_length]
  have ih:=impl_product.ev_l0 a b ha hb hg hg2 hp d (i+1) (o ++ [(List.range (b.getD 0 []).length).map fun j=>prodAt a b i j b.length]) (by omega) (by
   rw [ho]
   unfold tab
   rw [List.range_succ,List.map_append]
   rfl)
  refine Ev.step (fun q=>impl_product.l0.eq_2 _ _ _ _ _ q) ?_
  simp only [rdSS0,Int.toNat_natCast]
  refine ev_pos (by omega) (ev_pos (by omega) (ev_pos (by omega) ?_))
  exact impl_product.ev_l1 a b ha hb hg hg2 hp i (by omega) o (by omega) (by rw [inc (by omega)];exact ih) (b.getD 0 []).length 0 [] (by omega) rfl
theorem impl_product.ev (a b : List (List Int)) (ha : matBytes a) (hb : matBytes b) (hg : goodM a=true) (hg2 : goodM b=true) (hp : (a.getD 0 []).length=b.length) : Ev (fun q=>impl_product.f q a b) (prodM a b):=by
 unfold impl_product.f
 refine ev_bind (impl_transposed.ev b hg2) ?_
 exact impl_product.ev_l0 a b ha hb hg hg2 hp a.length 0 [] (by omega) rfl

def prPart (a b : List (List Int)) (i k j : Nat) : List (List Int):=tab a.length (b.getD 0 []).length fun x y=>if x < i then prodAt a b x y b.length else if x=i then prodAt a b x y (if y < j then k+1 else k) else 0
theorem prPart_row (a b : List (List Int)) (i k : Nat) : prPart a b i k (b.getD 0 []).length=prPart a b i (k+1) 0:=by
 apply tab_congr
 intro x hx y hy
 by_cases h : x < i
 ·rw [if_pos h,if_pos h]
 ·rw [if_neg h,if_neg h]
  by_cases h2 : x=i
  ·rw [if_pos h2,if_pos h2,if_pos hy,if_neg (by omega)]
  ·rw [if_neg h2,if_neg h2]
theorem prPart_next (a b : List (List Int)) (i : Nat) : prPart a b i b.length 0=prPart a b (i+1) 0 0:=by
 apply tab_congr
 intro x hx y hy
 by_cases h : x < i
 ·rw [if_pos h,if_pos (by omega)]
 ·rw [if_neg h]
  by_cases h2 : x=i
  ·rw [if_pos h2,if_neg (by omega),if_pos (by omega)]
  ·rw [if_neg h2,if_neg (by omega)]
   by_cases h3 : x=i+1
   ·rw [if_pos h3,if_neg (by omega)];rfl
   ·rw [if_neg h3]
theorem spec_l2Product.ev_l2 (a b : List (List Int)) (ha : matBytes a) (hb : matBytes b) (hg : goodM a=true) (hg2 : goodM b=true) (hp : (a.getD 0 []).length=b.length) (i k : Nat) (hi : i < a.length) (hk : k < b.length) {R : List (List Int)}
  (K : Ev (fun q=>spec_l2Product.l1 q (i : Int) a (a.length : Int) (i : Int) (a.getD i []) ((a.getD i []).length : Int) (wrap64 ((k : Int)+1)) b (prPart a b i (k+1) 0)) R) : ∀ (d j : Nat),j+d=(b.getD 0 []).length →
  Ev (fun q=>spec_l2Product.l2 q (i : Int) (rd (a.getD i []) (k : Int)) a (a.length : Int) (i : Int) (a.getD i []) ((a.getD i []).length : Int) (k : Int) (b.getD k []) ((b.getD k []).length : Int) (j : Int) b (prPart a b i k j)) R
 | 0,j,hj=>by
  have hf:=goodM_iff hg2
  have e:=hf.2.2 k hk
  refine Ev.step (fun q=>spec_l2Product.l2.eq_2 _ _ _ _ _ _ _ _ _ _ _ _ _ q) ?_
  refine ev_neg (by omega) ?_
  rw [show j=(b.getD 0 []).length by omega,prPart_row]
  exact K
 | d+1,j,hj=>by
  have hf:=goodM_iff hg2
  have hf1:=goodM_iff hg
  have e:=hf.2.2 k hk
  have hlen : (prPart a b i k j).length=a.length:=tab_length _ _ _
  have hrow : ((prPart a b i k j).getD i []).length=(b.getD 0 []).length:=tab_getD_length (by omega)
  have hat : ((prPart a b i k j).getD i []).getD j 0=prodAt a b i j k:=by
   unfold prPart
   rw [tab_get2 hi (by omega),if_neg (by omega),if_pos rfl,if_neg (by omega)]
  refine Ev.step (fun q=>spec_l2Product.l2.eq_2 _ _ _ _ _ _ _ _ _ _ _ _ _ q) ?_
  simp only [rdSS0,Int.toNat_natCast]
  refine ev_pos (by omega) (ev_pos (by omega) (ev_pos (by omega) (ev_pos (by omega) (ev_pos (by omega) (ev_pos (by omega) ?_)))))
  have bx : Byte (rd (a.getD i []) (k : Int)):=by rw [rd_nat];exact matBytes_get ha i k
  have by' : Byte (rd (b.getD k []) (j : Int)):=by rw [rd_nat];exact matBytes_get hb k j
  refine ev_bind (spec_l1Times.ev bx by') ?_
  rw [inc (by omega)]
  have hs : (prPart a b i k j).set i (((prPart a b i k j).getD i []).set j (Go.bits .xor .u8 (rd ((prPart a b i k j).getD i []) (j : Int)) (mul (rd (a.getD i []) (k : Int)) (rd (b.getD k []) (j : Int)))))=prPart a b i k (j+1):=by
   rw [rd_nat ((prPart a b i k j).getD i []),hat,xor_u8 (prodAt_byte ha i j k) (Byte.mul bx _),rd_nat,rd_nat]
   unfold prPart
   rw [tab_set hi]
   apply tab_congr
   intro x hx y hy
   by_cases h : x=i∧y=j
   ·obtain ⟨rfl,rfl⟩:=h
    rw [if_pos ⟨rfl,rfl⟩,if_neg (by omega),if_pos rfl,if_pos (by omega)]
    rfl
   ·rw [if_neg h]
    by_cases h1 : x < i
    ·rw [if_pos h1,if_pos h1]
    ·rw [if_neg h1,if_neg h1]
     by_cases h2 : x=i
     ·rw [if_pos h2,if_pos h2]
      by_cases h3 : y < j
      ·rw [if_pos h3,if_pos (by omega)]
      ·rw [if_neg h3,if_neg (by omega)]
     ·rw [if_neg h2,if_neg h2]
  rw [hs]
  exact spec_l2Product.ev_l2 a b ha hb hg hg2 hp i k hi hk K d (j+1) (by omega)
theorem spec_l2Product.ev_l1 (a b : List (List Int)) (ha : matBytes a) (hb : matBytes b) (hg : goodM a=true) (hg2 : goodM b=true) (hp : (a.getD 0 []).length=b.length) (i : Nat) (hi : i < a.length) {R : List (List Int)}
  (K : Ev (fun q=>spec_l2Product.l0 q a (a.length : Int) (wrap64 ((i : Int)+1)) b (prPart a b (i+1) 0 0)) R) : ∀ (d k : Nat),k+d=b.length →
  Ev (fun q=>spec_l2Product.l1 q (i : Int) a (a.length : Int) (i : Int) (a.getD i []) ((a.getD i []).length : Int) (k : Int) b (prPart a b i k 0)) R
 | 0,k,hk=>by
  have hf1:=goodM_iff hg
  have e:=hf1.2.2 i hi
  refine Ev.step (fun q=>spec_l2Product.l1.eq_2 _ _ _ _ _ _ _ _ _ q) ?_
  refine ev_neg (by omega) ?_
  rw [show k=b.length by omega,prPart_next]
  exact K
 | d+1,k,hk=>by
  have hf1:=goodM_iff hg
  have hf:=goodM_iff hg2
  have e:=hf1.2.2 i hi
  have ih:=spec_l2Product.ev_l1 a b ha hb hg hg2 hp i hi K d (k+1) (by omega)
  refine Ev.step (fun q=>spec_l2Product.l1.eq_2 _ _ _ _ _ _ _ _ _ q) ?_
  simp only [rdSS0,Int.toNat_natCast]
  refine ev_pos (by omega) (ev_pos (by omega) (ev_pos (by omega) (ev_pos (by omega) ?_)))
  exact spec_l2Product.ev_l2 a b ha hb hg hg2 hp i k hi (by omega) (by rw [inc (by omega)];exact ih) (b.getD 0 []).length 0 (by omega)
theorem spec_l2Product.ev_l0 (a b : List (List Int)) (ha : matBytes a) (hb : matBytes b) (hg : goodM a=true) (hg2 : goodM b=true) (hp : (a.getD 0 []).length=b.length) : ∀ (d i : Nat),i+d=a.length →
  Ev (fun q=>spec_l2Product.l0 q a (a.length : Int) (i : Int) b (prPart a b i 0 0)) (prodM a b)
 | 0,i,hi=>by
  refine Ev.step (fun q=>spec_l2Product.l0.eq_2 _ _ _ _ _ q) ?_
  refine ev_neg (by omega) (ev_now ?_)
  apply tab_congr
  intro x hx y hy
  rw [if_pos (by omega)]
 | d+1,i,hi=>by
  have hf1:=goodM_iff hg
  have ih:=spec_l2Product.ev_l0 a b ha hb hg hg2 hp d (i+1) (by omega)
  refine Ev.step (fun q=>spec_l2Product.l0.eq_2 _ _ _ _ _ q) ?_
  simp only [rdSS0,Int.toNat_natCast]
  refine ev_pos (by omega) (ev_pos (by omega) (ev_pos (by omega) ?_))
  exact spec_l2Product.ev_l1 a b ha hb hg hg2 hp i (by omega) (by rw [inc (by omega)];exact ih) b.length 0 (by omega)
theorem spec_l2Product.ev (a b : List (List Int)) (ha : matBytes a) (hb : matBytes b) (hg : goodM a=true) (hg2 : goodM b=true) (hp : (a.getD 0 []).length=b.length) : Ev (fun q=>spec_l2Product.f q a b) (prodM a b):=by
 have hf1:=goodM_iff hg
 have hf:=goodM_iff hg2
 unfold spec_l2Product.f
 refine ev_pos (by omega) ?_
 simp only [rdSS0,Int.toNat_zero]
 refine ev_bind (spec_l2Blank.ev _ _ (by omega) (by omega)) ?_
 have e : blankM a.length (b.getD 0 []).length=prPart a b 0 0 0:=by
  rw [tab_blank]
  apply tab_congr
  intro x hx y hy
  rw [if_neg (by omega)]
  by_cases h : x=0
  ·rw [if_pos h,if_neg (by omega)];rfl
  ·rw [if_neg h]
 rw [e]
 exact spec_l2Product.ev_l0 a b ha hb hg hg2 hp a.length 0 (by omega)

def productVal (a b : List (List Int)) : List (List Int) × Bool:=if goodM a=true∧goodM b=true∧(a.getD 0 []).length=b.length then (prodM a b,true) else ([],false)
theorem productVal_no {a b : List (List Int)} (h : ¬ (goodM a=true∧goodM b=true∧(a.getD 0 []).length=b.length)) : productVal a b=([],false):=if_neg h
theorem spec_Product.ev (a b : List (List Int)) (ha : matBytes a) (hb : matBytes b) : Ev (fun q=>spec_Product.f q a b) (productVal a b):=by
 unfold spec_Product.f
 refine ev_bind (spec_GoodMatrix.ev a) ?_
 by_cases h : goodM a=true
 ·have hf:=goodM_iff h
  refine ev_pos h (ev_bind (spec_GoodMatrix.ev b) ?_)
  by_cases h1 : goodM b=true
  ·refine ev_pos h1 (ev_pos (by omega) ?_)
   simp only [rdSS0,Int.toNat_zero]
   by_cases h2 : (a.getD 0 []).length=b.length
   ·refine ev_pos (by omega) (ev_bind (spec_l2Product.ev a b ha hb h h1 h2) (ev_now ?_))
    exact (if_pos ⟨h,h1,h2⟩).symm
   ·exact ev_neg (by omega) (ev_now (productVal_no (fun z=>h2 z.2.2)).symm)
  ·exact ev_neg h1 (ev_now (productVal_no (fun z=>h1 z.2.1)).symm)
 ·exact ev_neg h (ev_now (productVal_no (fun z=>h z.1)).symm)

theorem impl_Product.ev (a b : List (List Int)) (ha : matBytes a) (hb : matBytes b) : Ev (fun q=>impl_Product.f q a b) (productVal a b):=by
 unfold impl_Product.f
 simp only [impl_GoodMatrix.ev,Option.bind_some]
 by_cases h : goodM a=true
 ·have hf:=goodM_iff h
  refine ev_pos h ?_
  by_cases h1 : goodM b=true
  ·refine ev_pos h1 (ev_pos (by omega) ?_)
   simp only [rdSS0,Int.toNat_zero]
   by_cases h2 : (a.getD 0 []).length=b.length
   ·refine ev_pos (by omega) (ev_bind (impl_product.ev a b ha hb h h1 h2) (ev_now ?_))
    exact (if_pos ⟨h,h1,h2⟩).symm
   ·exact ev_neg (by omega) (ev_now (productVal_no (fun z=>h2 z.2.2)).symm)
  ·exact ev_neg h1 (ev_now (productVal_no (fun z=>h1 z.2.1)).symm)
 ·exact ev_neg h (ev_now (productVal_no (fun z=>h z.1)).symm)

theorem impl_Identity.ev (n : Int) : Ev (fun k=>impl_Identity.f k n) (identityVal n):=by
 unfold impl_Identity.f identityVal
 simp only [impl_within.ev,Option.bind_some,decide_eq_true_eq]
 by_cases h : 1≤n∧n≤16
 ·refine ev_eq (ev_pos h ?_) (if_pos h).symm
  obtain ⟨m,rfl⟩:=Int.eq_ofNat_of_zero_le (show 0≤n by omega)
  rw [Int.toNat_natCast]
  exact ev_bind (impl_identity.ev m (by omega)) (ev_now rfl)
 ·exact ev_eq (ev_neg h (ev_now rfl)) (if_neg h).symm

def impl_DotVectors.val (v w : List Int) : Int × Bool:=if 80 < v.length∨v.length ≠ w.length then (0,false) else (dotV v w,true)
theorem impl_DotVectors.ev {v w : List Int} (hv : Bytes v) (hw : Bytes w) : Ev (fun k=>impl_DotVectors.f k v w) (impl_DotVectors.val v w):=by
 unfold impl_DotVectors.f impl_DotVectors.val
 by_cases h1 : 80 < v.length
 ·rw [if_pos (Or.inl h1)]
  exact ev_pos (by omega) (ev_now rfl)
 ·by_cases h2 : v.length=w.length
  ·rw [if_neg (by omega)]
   exact ev_neg (by omega) (ev_pos (by omega) (ev_bind (impl_dot.ev hv hw h2 (by omega)) (ev_now rfl)))
  ·rw [if_pos (Or.inr h2)]
   exact ev_neg (by omega) (ev_neg (by omega) (ev_now rfl))

theorem spec_DrawProduct.some_ {s : List Int} (hs : Bytes s) : ∃ a b,Ev (fun k=>spec_DrawProduct.f k s) (a,b)∧matBytes a∧matBytes b:=by
 obtain ⟨n,a1,z1,e1,hn0,hn1,ha0,ha1⟩:=spec_l1Cur_side.some_ hs (a:=0) (z:=0) (by decide) (by decide)
 obtain ⟨p,a2,z2,e2,hp0,hp1,hb0,hb1⟩:=spec_l1Cur_side.some_ hs (a:=a1) (z:=z1) (by omega) (by omega)
 obtain ⟨q,a3,z3,e3,hc0,hc1⟩:=spec_l1Cur_one.some_ hs (a:=a2) (z:=z2) (n:=12) (by omega) (by omega) (by decide)
 obtain ⟨m,a4,z4,e4,hm,_,_,hd0,hd1⟩:=spec_l1Cur_matrix.some_ hs (a:=a3) (z:=z3) (n:=n) (c:=p) hn0 (by omega) hp0 (by omega) (by omega) (by omega)
 obtain ⟨t,a5,z5,e5,ht0,ht1,hf0,hf1⟩:=spec_l1Cur_side.some_ hs (a:=a4) (z:=z4) (by omega) (by omega)
 have hw : wrap64 (p+1)=p+1:=wrap_id (by omega) (by omega)
 cases q with
 | true =>
  obtain ⟨w,a6,z6,e6,hw2,_,_,_,_⟩:=spec_l1Cur_matrix.some_ hs (a:=a5) (z:=z5) (n:=p+1) (c:=t) (by omega) (by omega) ht0 (by omega) (by omega) (by omega)
  refine ⟨m,w,?_,hm,hw2⟩
  unfold spec_DrawProduct.f spec_DrawProduct.g
  rw [e1]
  simp only [Option.bind_some]
  rw [e2]
  simp only [Option.bind_some]
  rw [e3]
  simp only [Option.bind_some,if_true]
  rw [hw]
  refine ev_bind (a:=(m,w,a6,z6)) (ev_bind e4 ?_) (ev_now rfl)
  dsimp only
  rw [e5]
  simp only [Option.bind_some]
  exact ev_bind e6 (ev_now rfl)
 | false =>
  obtain ⟨w,a6,z6,e6,hw2,_,_,_,_⟩:=spec_l1Cur_matrix.some_ hs (a:=a5) (z:=z5) (n:=p) (c:=t) hp0 (by omega) ht0 (by omega) (by omega) (by omega)
  refine ⟨m,w,?_,hm,hw2⟩
  unfold spec_DrawProduct.f spec_DrawProduct.g
  rw [e1]
  simp only [Option.bind_some]
  rw [e2]
  simp only [Option.bind_some]
  rw [e3]
  simp only [Option.bind_some]
  refine ev_bind (a:=(m,w,a6,z6)) (ev_neg (by decide) (ev_bind e4 ?_)) (ev_now rfl)
  dsimp only
  rw [e5]
  simp only [Option.bind_some]
  exact ev_bind e6 (ev_now rfl)

section
open Go.Proofs.Ytajikfnpcobnpaa.Fld Go.Proofs.Ytajikfnpcobnpaa.Lin
theorem mx_row {m : List (List Int)} (hg : goodM m=true) (hb : matBytes m) : ∀ r ∈ m,okI (m.getD 0 []).length r:=(sqM_iff.1 (sqM_good hg hb)).2.2
theorem toF_sumOver (f : Nat→Int) : ∀ n,(∀ k,k < n→Byte (f k))→toF (sumOver f n)=sm (fun k=>toF (f k)) n
 | 0,_=>toF_zero
 | n+1,h=>by
  show toF (gx (sumOver f n) (f n))=sm _ n+_
  rw [toF_gx (sumOver_byte n fun k hk=>h k (by omega)) (h n (by omega)),toF_sumOver f n fun k hk=>h k (by omega)]
theorem toF_prodAt {a b : List (List Int)} (ha : matBytes a) (hb : matBytes b) (i j n : Nat) : toF (prodAt a b i j n)=sm (fun k=>en a i k*en b k j) n:=by
 unfold prodAt
 rw [toF_sumOver _ _ fun k _=>Byte.mul (matBytes_get ha i k) _]
 exact sm_congr _ fun k _=>toF_mul (matBytes_get ha i k) (matBytes_get hb k j)
theorem tab_ext {n m : Nat} {l : List (List Int)} {f : Nat→Nat→Int} (hn : l.length=n) (hm : ∀ i,i < n→(l.getD i []).length=m) (h : ∀ i,i < n→∀ j,j < m→(l.getD i []).getD j 0=f i j) : tab n m f=l:=by
 rw [tab_self hn hm]
 exact tab_congr fun i hi j hj=>(h i hi j hj).symm
theorem idM_get {n i j : Nat} (hi : i < n) (hj : j < n) : ((idM n).getD i []).length=n:=by
 rw [idM_getD hi,List.length_set,List.length_replicate]
theorem prod_id {a b : List (List Int)} {n : Nat} (ha : ∀ r ∈ a,okI n r) (hb : ∀ r ∈ b,okI n r) (hal : a.length=n) (hbl : b.length=n) (h1 : 1≤n) (h : ∀ i c,i < n→c < n→sm (fun j=>en a i j*en b j c) n=dl i c) : prodM a b=idM n:=by
 have hb0 : (b.getD 0 []).length=n:=(rowM_ok hb (by omega)).2
 have ma : matBytes a:=fun r hr=>(ha r hr).1
 have mb : matBytes b:=fun r hr=>(hb r hr).1
 unfold prodM
 rw [hal,hbl,hb0]
 refine tab_ext (KitN.idM_length n) (fun i hi=>idM_get hi hi) fun i hi j hj=>?_
 refine toF_inj (bytes_getD (idM_ok n _ (getD_mem (by rw [KitN.idM_length];omega))).1 j) (prodAt_byte ma i j n) ?_
 rw [toF_prodAt ma mb,h i j hi hj]
 exact en_id hi hj
theorem trM_good {m : List (List Int)} (hg : goodM m=true) (hb : matBytes m) : goodM (trM m)=true∧matBytes (trM m)∧(trM m).length=(m.getD 0 []).length∧((trM m).getD 0 []).length=m.length:=by
 obtain ⟨h1,h2,h3⟩:=goodM_iff hg
 have hl : (trM m).length=(m.getD 0 []).length:=tab_length _ _ _
 have h0 : ((trM m).getD 0 []).length=m.length:=tab_getD_length (by omega)
 have hby : ∀ x ∈ trM m,okI m.length x:=tab_okI fun j hj i hi=>matBytes_get hb i j
 exact ⟨goodM_of (n:=m.length) hby (by omega) (by omega) (by omega) (by omega),fun r hr=>(hby r hr).1,hl,h0⟩
theorem rank_trM {m : List (List Int)} (hg : goodM m=true) (hb : matBytes m) : rankVal (trM m)=rankVal m:=by
 obtain ⟨t1,t2,t3,t4⟩:=trM_good hg hb
 unfold rankVal
 rw [if_pos t1,if_pos hg,t4,rank_tr (mx_row hg hb) (by have:=mx_row t1 t2;rw [t4] at this;exact this) rfl t3 fun i j hi hj=>?_]
 unfold en
 rw [show trM m=tab (m.getD 0 []).length m.length (fun j i=>(m.getD i []).getD j 0) from rfl,tab_get2 hj hi]
theorem rankVal_eq {m : List (List Int)} (hg : goodM m=true) : rankVal m=((((rowI.red m (m.getD 0 []).length).2 : Nat) : Int),true):=if_pos hg
/-- There is an inverse exactly if the matrix is square and its rank is full. -/
theorem inv_rank_iff {m : List (List Int)} (hg : goodM m=true) (hb : matBytes m) : (invVal m).2=true↔m.length=(m.getD 0 []).length∧(rowI.red m (m.getD 0 []).length).2=m.length:=by
 unfold invVal
 by_cases e : m.length=(m.getD 0 []).length
 ·rw [if_pos ⟨hg,e⟩,inv_iff (by have:=mx_row hg hb;rw [← e] at this;exact this),← e]
  exact ⟨fun h=>⟨rfl,h⟩,fun h=>h.2⟩
 ·rw [if_neg fun z=>e z.2]
  exact ⟨fun h=>(by cases h),fun h=>absurd h.1 e⟩
/-- What a matrix with an inverse has. -/
theorem inv_facts {m : List (List Int)} (hb : matBytes m) (h : (invVal m).2=true) : goodM m=true∧m.length=(m.getD 0 []).length∧(∀ r ∈ m,okI m.length r)∧(rowI.red m m.length).2=m.length∧(invVal m).1=(invM m).1∧(invM m).1.length=m.length∧∀ r ∈ (invM m).1,okI m.length r:=by
 by_cases c : goodM m=true∧m.length=(m.getD 0 []).length
 ·have hr:=mx_row c.1 hb
  rw [← c.2] at hr
  have e : invVal m=invM m:=if_pos c
  obtain ⟨o1,o2,_⟩:=invM_ok (sqN_good c.1 hb c.2)
  rw [e] at h ⊢
  exact ⟨c.1,c.2,hr,(inv_iff hr).1 h,rfl,o1 h,o2⟩
 ·rw [show invVal m=([],false) from if_neg c] at h
  cases h
theorem prod_inv {m : List (List Int)} (hb : matBytes m) (h : (invVal m).2=true) : productVal m (invVal m).1=(idM m.length,true)∧productVal (invVal m).1 m=(idM m.length,true):=by
 obtain ⟨hg,hs,hr,hk,e,hl,hi⟩:=inv_facts hb h
 have h1:=(goodM_iff hg).1
 have hgi : goodM (invM m).1=true:=goodM_of hi (by omega) (by omega) (by omega) (by omega)
 have h0 : ((invM m).1.getD 0 []).length=m.length:=(rowM_ok hi (by omega)).2
 rw [e]
 unfold productVal
 rw [if_pos ⟨hg,hgi,by omega⟩,if_pos ⟨hgi,hg,by omega⟩,prod_id hr hi rfl hl h1.1 fun i c hi hc=>mul_invM hr hk hi hc,prod_id hi hr hl rfl h1.1 fun i c hi hc=>invM_mul hr hk hi hc]
 exact ⟨rfl,rfl⟩
/-- The equations are solved. -/
theorem dot_solve {m : List (List Int)} {v : List Int} (hb : matBytes m) (hv : Bytes v) (h : (invVal m).2=true) (hvl : v.length=m.length) {i : Nat} (hi : i < m.length) : dotV (m.getD i []) (applyM (invVal m).1 v)=v.getD i 0:=by
 obtain ⟨hg,hs,hr,hk,e,hl,ho⟩:=inv_facts hb h
 have hrow:=rowM_ok hr hi
 have hb2 : Bytes (applyM (invM m).1 v):=applyM_bytes (fun r h=>(ho r h).1) v
 rw [e]
 refine toF_inj (dotV_byte hrow.1) (bytes_getD hv i) ?_
 rw [toF_dot _ _ hrow.1 hb2 (by rw [applyM_length,hrow.2,hl]),hrow.2]
 have e1 : sm (fun j=>toF ((m.getD i []).getD j 0)*toF ((applyM (invM m).1 v).getD j 0)) m.length=sm (fun j=>sm (fun c=>en m i j*(en (invM m).1 j c*toF (v.getD c 0))) m.length) m.length :=
  sm_congr _ fun j hj=>by rw [toF_apply ho hv hvl (by omega),sm_mul];rfl
 rw [e1,sm_swap]
 have e2 : sm (fun j=>sm (fun c=>en m i c*(en (invM m).1 c j*toF (v.getD j 0))) m.length) m.length=sm (fun c=>dl i c*toF (v.getD c 0)) m.length :=
  sm_congr _ fun c hc=>by
   rw [← mul_invM hr hk hi hc,← sm_mulr]
   exact sm_congr _ fun j _=>by rw [F8.mul_assoc]
 rw [e2]
 exact sm_dl2 _ hi
/-- A product's turned matrix is the product of the turned ones. -/
theorem prod_tr {a b : List (List Int)} (ha : matBytes a) (hb : matBytes b) (hga : goodM a=true) (hgb : goodM b=true) (hp : (a.getD 0 []).length=b.length) : productVal (trM b) (trM a)=(trM (prodM a b),true)∧goodM (prodM a b)=true:=by
 obtain ⟨s1,s2,s3,s4⟩:=trM_good hga ha
 obtain ⟨t1,t2,t3,t4⟩:=trM_good hgb hb
 have h1:=goodM_iff hga
 have h2:=goodM_iff hgb
 have hpr : ∀ r ∈ prodM a b,okI (b.getD 0 []).length r:=tab_okI fun i _ j _=>prodAt_byte ha i j _
 have hpl : (prodM a b).length=a.length:=tab_length _ _ _
 have hp0 : ((prodM a b).getD 0 []).length=(b.getD 0 []).length:=tab_getD_length (by omega)
 refine ⟨?_,goodM_of hpr (by omega) (by omega) h2.2.1.1 h2.2.1.2⟩
 unfold productVal
 rw [if_pos ⟨t1,s1,by omega⟩]
 refine congrArg (fun z=>(z,true)) ?_
 unfold prodM trM
 have e3 : (tab a.length (b.getD 0 []).length fun i j=>prodAt a b i j b.length).length=a.length:=tab_length _ _ _
 have e4 : ((tab a.length (b.getD 0 []).length fun i j=>prodAt a b i j b.length).getD 0 []).length=(b.getD 0 []).length:=tab_getD_length (by omega)
 rw [e3,e4]
 have e1 : (tab (b.getD 0 []).length b.length fun j i=>(b.getD i []).getD j 0).length=(b.getD 0 []).length:=tab_length _ _ _
 have e2 : ((tab (a.getD 0 []).length a.length fun j i=>(a.getD i []).getD j 0).getD 0 []).length=a.length:=tab_getD_length (by omega)
 have e5 : (tab (a.getD 0 []).length a.length fun j i=>(a.getD i []).getD j 0).length=(a.getD 0 []).length:=tab_length _ _ _
 rw [e1,e2,e5]
 refine tab_congr fun j hj i hi=>?_
 rw [tab_get2 hi hj]
 refine toF_inj (prodAt_byte (a:=trM b) t2 j i _) (prodAt_byte ha i j _) ?_
 rw [toF_prodAt ha hb]
 refine (toF_prodAt t2 s2 j i (a.getD 0 []).length).trans ?_
 rw [hp]
 refine sm_congr _ fun k hk=>?_
 rw [F8.mul_comm]
 unfold en trM
 rw [tab_get2 (by omega) hi,tab_get2 hj hk]
end
theorem inv_len (m : List (List Int)) (hb : matBytes m) : (invVal m).1.length≤16:=(invVal_ok m hb).1.1
theorem prod_len (a b : List (List Int)) : (productVal a b).1.length≤16:=by
 unfold productVal
 split
 ·rename_i h
  have:=(goodM_iff h.1).1
  show (tab _ _ _).length≤16
  rw [tab_length];omega
 ·simp
theorem laws_FnMatrices.ev_j6 (l : List Int) (hl : Bytes l) : Ev (fun k=>laws_FnMatrices.j6 k l) true:=by
 refine Ev.step (fun k=>laws_FnMatrices.j6.eq_2 _ k) ?_
 obtain ⟨a,b,e,ha,hb⟩:=spec_DrawProduct.some_ hl
 have hpl:=prod_len a b
 refine ev_bind e (ev_bind (impl_Product.ev a b ha hb) (ev_bind (spec_Product.ev a b ha hb) (ev_neg (by simp) (ev_bind (laws_sameMatrices.ev _ (by omega)) ?_))))
 refine Ev.step (fun k=>laws_FnMatrices.j7.eq_2 _ _ _ _ _ k) (ev_neg (by decide) ?_)
 by_cases h : goodM a=true∧goodM b=true∧(a.getD 0 []).length=b.length
 ·obtain ⟨p1,p2⟩:=prod_tr ha hb h.1 h.2.1 h.2.2
  rw [show productVal a b=(prodM a b,true) from if_pos h]
  have ta : transVal a=(trM a,true):=if_pos h.1
  have tb : transVal b=(trM b,true):=if_pos h.2.1
  have tc : transVal (prodM a b)=(trM (prodM a b),true):=if_pos p2
  have g:=goodM_iff p2
  have hlen : (trM (prodM a b)).length≤16:=by unfold trM;rw [tab_length];omega
  have ea:=impl_Transposed.ev a
  have eb:=impl_Transposed.ev b
  have ec:=impl_Transposed.ev (prodM a b)
  rw [ta] at ea
  rw [tb] at eb
  rw [tc] at ec
  have ep:=impl_Product.ev (trM b) (trM a) (trM_good h.2.1 hb).2.1 (trM_good h.1 ha).2.1
  rw [p1] at ep
  refine ev_pos rfl (ev_bind ea (ev_bind eb (ev_bind ep (ev_bind ec (ev_pos rfl (ev_pos rfl (ev_pos rfl (ev_pos rfl (ev_bind (laws_sameMatrices.ev _ (by show (trM (prodM a b)).length≤_;omega)) ?_)))))))))
  exact Ev.step (fun k=>laws_FnMatrices.j8.eq_2 _ k) (ev_now rfl)
 ·rw [show productVal a b=([],false) from if_neg h]
  exact ev_neg (by decide) (ev_now rfl)
theorem laws_FnMatrices.ev_l0 (l : List Int) (hl : Bytes l) {m : List (List Int)} {v : List Int} (hb : matBytes m) (hv : Bytes v) (h : (invVal m).2=true) (hvl : v.length=m.length) : ∀ (d i : Nat),i+d=m.length →
  Ev (fun k=>laws_FnMatrices.l0 k l v (applyM (invVal m).1 v) m (m.length : Int) (i : Int)) true
 | 0,i,hi=>by
  refine Ev.step (fun k=>laws_FnMatrices.l0.eq_2 _ _ _ _ _ _ k) (ev_neg (by omega) ?_)
  exact Ev.step (fun k=>laws_FnMatrices.j5.eq_2 _ k) (laws_FnMatrices.ev_j6 l hl)
 | d+1,i,hi=>by
  obtain ⟨hg,hs,hr,hk,e,hil,ho⟩:=inv_facts hb h
  have hm:=(goodM_iff hg).1
  have hi2 : i < m.length:=by omega
  have hal : (applyM (invVal m).1 v).length=m.length:=by rw [applyM_length,e,hil]
  have hab : Bytes (applyM (invVal m).1 v):=applyM_bytes (fun r hr=>by rw [e] at hr;exact (ho r hr).1) v
  have hrow:=rowM_ok hr hi2
  refine Ev.step (fun k=>laws_FnMatrices.l0.eq_2 _ _ _ _ _ _ k) (ev_pos (by omega) (ev_pos (by omega) (ev_pos (by omega) ?_)))
  rw [rdSS0,Int.toNat_natCast]
  have hd:=impl_DotVectors.ev hrow.1 hab
  have hdv : impl_DotVectors.val (m.getD i []) (applyM (invVal m).1 v)=(v.getD i 0,true):=by
   unfold impl_DotVectors.val
   rw [if_neg (by rw [hrow.2,hal];omega),dot_solve hb hv h hvl hi2]
  rw [hdv] at hd
  refine ev_bind hd (ev_pos rfl (ev_pos (by omega) (ev_pos (by rw [rd_nat]) ?_)))
  rw [inc (by omega)]
  exact laws_FnMatrices.ev_l0 l hl hb hv h hvl d (i+1) (by omega)
theorem laws_FnMatrices.ev_j2 (l : List Int) (hl : Bytes l) {m : List (List Int)} {v : List Int} (hb : matBytes m) (hv : Bytes v) : Ev (fun k=>laws_FnMatrices.j2 k l v (invVal m).2 m (invVal m).1) true:=by
 refine Ev.step (fun k=>laws_FnMatrices.j2.eq_2 _ _ _ _ _ k) ?_
 by_cases h : (invVal m).2=true
 ·obtain ⟨hg,hs,hr,hk,e,hil,ho⟩:=inv_facts hb h
  have hm:=(goodM_iff hg).1
  have hib:=(invVal_ok m hb).2.1
  obtain ⟨p1,p2⟩:=prod_inv hb h
  have e1:=impl_Product.ev m (invVal m).1 hb hib
  have e2:=impl_Product.ev (invVal m).1 m hib hb
  rw [p1] at e1
  rw [p2] at e2
  have e3:=impl_Identity.ev (m.length : Int)
  rw [show identityVal (m.length : Int)=(idM m.length,true) by unfold identityVal;rw [if_pos (by omega),Int.toNat_natCast]] at e3
  have e4:=impl_Solve.ev m hb v hv
  have hil2 : (idM m.length).length≤1048576:=by rw [KitN.idM_length];omega
  refine ev_pos h (ev_bind e1 (ev_bind e2 (ev_bind e3 (ev_bind e4 (ev_pos rfl (ev_pos rfl (ev_pos rfl (ev_bind (laws_sameMatrices.ev _ hil2) (ev_pos rfl (ev_bind (laws_sameMatrices.ev _ hil2) (ev_pos rfl ?_)))))))))))
  by_cases c : v.length=m.length
  ·have hs2 : solveVal m v=(applyM (invVal m).1 v,true):=if_pos ⟨h,c⟩
   rw [hs2]
   refine Ev.step (fun k=>laws_FnMatrices.j3.eq_2 _ _ _ _ _ _ k) (ev_neg (by simp [c]) (ev_pos rfl ?_))
   exact laws_FnMatrices.ev_l0 l hl hb hv h c m.length 0 (by omega)
  ·have hs2 : solveVal m v=([],false):=if_neg fun z=>c z.2
   rw [hs2]
   have hc : ((v.length : Int) == (m.length : Int))=false:=by rw [beq_eq_false_iff_ne];omega
   rw [hc]
   refine Ev.step (fun k=>laws_FnMatrices.j3.eq_2 _ _ _ _ _ _ k) (ev_neg (by decide) (ev_neg (by decide) ?_))
   exact Ev.step (fun k=>laws_FnMatrices.j5.eq_2 _ k) (laws_FnMatrices.ev_j6 l hl)
 ·exact ev_neg h (laws_FnMatrices.ev_j6 l hl)
theorem laws_FnMatrices.ev_j1 (l : List Int) (hl : Bytes l) {m : List (List Int)} {v : List Int} (hb : matBytes m) (hv : Bytes v) (x : Bool) (hx : x=false) : Ev (fun k=>laws_FnMatrices.j1 k l v (invVal m).2 x m (invVal m).1) true:=by
 subst hx
 exact Ev.step (fun k=>laws_FnMatrices.j1.eq_2 _ _ _ _ _ _ k) (ev_neg (by decide) (laws_FnMatrices.ev_j2 l hl hb hv))
theorem FnMatrices : ∀ (l0 l1 : List Int),(l0.length≤maxLen∧∀ x ∈ l0,(Lit.int .u8 x).wf=true)→(l1.length≤maxLen∧∀ x ∈ l1,(Lit.int .u8 x).wf=true)→∃ k,laws_FnMatrices.f k l0 l1=some true:=by
 intro l0 l1 h0 h1
 refine Ev.rounds ?_
 unfold laws_FnMatrices.f
 by_cases hz : wrap64 ((l0.length : Int)+(l1.length : Int)) > 1048576
 ·exact ev_pos hz (ev_now rfl)
 ·refine ev_neg hz ?_
  clear hz
  have hb1:=Bytes.of_wf h1.2
  obtain ⟨m,v,e,hb,hv⟩:=spec_DrawSolve.some_ (Bytes.of_wf h0.2)
  have hil:=inv_len m hb
  refine ev_bind e ?_
  dsimp only
  rw [impl_InverseOf.ev m hb]
  refine ev_bind (ev_now rfl) (ev_bind (spec_InverseOf.ev m hb) ?_)
  rw [impl_RankOf.ev m hb]
  refine ev_bind (ev_now rfl) (ev_bind (spec_RankOf.ev m hb) (ev_neg (by simp) (ev_bind (laws_sameMatrices.ev _ (by omega)) (ev_pos rfl (ev_neg (by simp) (ev_pos rfl ?_))))))
  rw [impl_GoodMatrix.ev]
  refine ev_bind (ev_now rfl) ?_
  refine Ev.step (fun k=>laws_FnMatrices.j0.eq_2 _ _ _ _ _ _ _ _ k) ?_
  by_cases hg : goodM m=true
  ·have hr:=rankVal_eq hg
   obtain ⟨t1,t2,t3,t4⟩:=trM_good hg hb
   have et:=impl_Transposed.ev m
   rw [show transVal m=(trM m,true) from if_pos hg] at et
   have hm:=(goodM_iff hg).1
   rw [hr]
   refine ev_neg (by rw [hg];simp) (ev_pos rfl (ev_bind et ?_))
   dsimp only
   rw [impl_RankOf.ev (trM m) t2,rank_trM hg hb,hr]
   refine ev_bind (ev_now rfl) (ev_pos rfl (ev_pos rfl (ev_pos rfl (ev_pos (by omega) ?_))))
   rw [rdSS0,Int.toNat_zero]
   have hi:=inv_rank_iff hg hb
   by_cases c : m.length=(m.getD 0 []).length
   ·refine ev_pos (by omega) (laws_FnMatrices.ev_j1 l1 hb1 hb hv _ ?_)
    by_cases y : (rowI.red m (m.getD 0 []).length).2=m.length
    ·rw [hi.2 ⟨c,y⟩,y];simp
    ·have : (invVal m).2=false:=by
      cases q : (invVal m).2 with
      | false=>rfl
      | true=>exact absurd (hi.1 q).2 y
     rw [this]
     have hy : ((((rowI.red m (m.getD 0 []).length).2 : Nat) : Int) == (m.length : Int))=false:=by rw [beq_eq_false_iff_ne];omega
     rw [hy];rfl
   ·refine ev_neg (by omega) (laws_FnMatrices.ev_j1 l1 hb1 hb hv _ ?_)
    cases q : (invVal m).2 with
    | false=>rfl
    | true=>exact absurd (hi.1 q).1 c
  ·have hr : rankVal m=(0,false):=if_neg hg
   rw [hr]
   have hgf : goodM m=false:=by simpa using hg
   exact ev_neg (by rw [hgf];decide) (ev_neg (by decide) (laws_FnMatrices.ev_j2 l1 hb1 hb hv))

end Go.Proofs.Ytajikfnpcobnpaa.Pure
-- HALVED
-- SQUEEZED
