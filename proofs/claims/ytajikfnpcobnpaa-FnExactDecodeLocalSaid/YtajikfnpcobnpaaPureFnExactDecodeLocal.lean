/- The given program's DecodeLocal returns what the reference's DecodeLocal returns, for all codes and shards, leaves the shards as they were, and what it returns is its own; there is no condition. -/
import Derived.Test.YtajikfnpcobnpaaPFnExactDecodeLocalx6
import Derived.Test.YtajikfnpcobnpaaVDecodeLocalA
import Derived.Test.YtajikfnpcobnpaaVDecodeLocalC
namespace Go.Proofs.Ytajikfnpcobnpaa.Pure
open Go.RowKit Go.Proofs.Ytajikfnpcobnpaa.PFnExactDecodeLocal Go.Proofs.YtajikfnpcobnpaaW.PrintWords Go.Proofs.YtajikfnpcobnpaaW.PrintLast Go.Proofs.Ytajikfnpcobnpaa.Gf Go.Proofs.Ytajikfnpcobnpaa.Kit Go.Proofs.Ytajikfnpcobnpaa.KitW
open Go.Proofs.Ytajikfnpcobnpaa.KitN hiding idM_length
set_option linter.unusedVariables false
set_option linter.unusedSimpArgs false

def allI (n : Nat) : List Int:=(List.range n).map fun i=>((i : Nat) : Int)
theorem allI_length (n : Nat) : (allI n).length=n:=by simp [allI]
theorem allI_rd {n i : Nat} (h : i < n) : rd (allI n) (i : Int)=(i : Int):=by rw [rd_nat];simp [allI,List.getD,h]
theorem spec_l3All.ev_l0 (n : Nat) (hn : n≤1048576) : ∀ (d i : Nat) (o : List Int),i+d=n→o=allI i→Ev (fun k=>spec_l3All.l0 k (n : Int) o (i : Int)) (allI n)
 | 0,i,o,hi,ho=>by
  refine Ev.step (fun k=>spec_l3All.l0.eq_2 _ _ _ k) ?_
  obtain rfl : i=n:=by omega
  exact ev_neg (by omega) (ev_now ho)
 | d+1,i,o,hi,ho=>by
  have hl : o.length=i:=by rw [ho,allI_length]
  refine Ev.step (fun k=>spec_l3All.l0.eq_2 _ _ _ k) ?_
  refine ev_pos (by omega) (ev_pos (by omega) ?_)
  rw [inc (by omega)]
  refine spec_l3All.ev_l0 n hn d (i+1) _ (by omega) ?_
  rw [ho];simp [allI,List.range_succ]
theorem spec_l3All.ev (n : Nat) (hn : n≤1048576) : Ev (fun k=>spec_l3All.f k (n : Int)) (allI n):=by
 unfold spec_l3All.f
 exact spec_l3All.ev_l0 n hn n 0 [] (by omega) rfl
/-- Some rows. -/
def someM (M : List (List Int)) (l : List Int) : List (List Int):=l.map fun x=>M.getD x.toNat []
theorem someM_length (M : List (List Int)) (l : List Int) : (someM M l).length=l.length:=by simp [someM]
theorem someM_ok {M : List (List Int)} {n : Nat} {l : List Int} (hM : ∀ r ∈ M,Bytes r∧r.length=n) (hl : ∀ j,j < l.length→0≤rd l (j : Int)∧rd l (j : Int) < (M.length : Int)) : ∀ r ∈ someM M l,okI n r:=by
 intro r hr
 obtain ⟨x,hx,rfl⟩:=List.mem_map.1 hr
 obtain ⟨j,hj,rfl⟩:=List.getElem_of_mem hx
 have h1:=hl j hj
 rw [rd_get hj] at h1
 have h2 : (l[j]).toNat < M.length:=by omega
 rw [List.getD_eq_getElem?_getD,List.getElem?_eq_getElem h2]
 exact hM _ (List.getElem_mem h2)
theorem someM_succ (M : List (List Int)) {l : List Int} {i : Nat} (h : i < l.length) : (someM M l).take (i+1)=(someM M l).take i ++ [M.getD (rd l (i : Int)).toNat []]:=by
 rw [List.take_succ_eq_append_getElem (by rw [someM_length];exact h)]
 simp [someM,rd_get h]
theorem partM_some {M : List (List Int)} {n : Nat} {l : List Int} (hM : ∀ r ∈ M,Bytes r∧r.length=n) (hl : ∀ j,j < l.length→0≤rd l (j : Int)∧rd l (j : Int) < (M.length : Int)) : partM M l (allI n)=someM M l:=by
 apply List.ext_getElem
 ·rw [partM_length,someM_length]
 ·intro i h1 h2
  have hi : i < l.length:=by rw [partM_length] at h1;exact h1
  have h3:=hl i hi
  have h4 : (rd l (i : Int)).toNat < M.length:=by omega
  simp only [partM,someM,List.getElem_map,List.getElem_range]
  rw [← rd_get hi]
  unfold partRow
  rw [allI_length]
  have hr : M.getD (rd l (i : Int)).toNat [] ∈ M:=by
   rw [List.getD_eq_getElem?_getD,List.getElem?_eq_getElem h4]
   exact List.getElem_mem h4
  have hlen:=(hM _ hr).2
  conv=>rhs;rw [row_self hlen]
  apply List.map_congr_left
  intro j hj
  rw [allI_rd (by simpa using hj),rd_nat]
theorem goodM_of {M : List (List Int)} {n : Nat} (hM : ∀ r ∈ M,Bytes r∧r.length=n) (h1 : 1≤M.length) (h2 : M.length≤16) (h3 : 1≤n) (h4 : n≤16) : goodM M=true:=by
 have hat : ∀ i,i < M.length→(M.getD i []).length=n:=fun i hi=>by
  rw [List.getD_eq_getElem?_getD,List.getElem?_eq_getElem hi]
  exact (hM _ (List.getElem_mem hi)).2
 unfold goodM
 have h0:=hat 0 (by omega)
 rw [Bool.and_eq_true,decide_eq_true_eq]
 refine ⟨by omega,?_⟩
 have : ((List.range M.length).any fun i=>(M.getD i []).length != (M.getD 0 []).length)=false:=by
  rw [List.any_eq_false]
  intro x hx
  rw [hat x (by simpa using hx),h0]
  simp
 rw [this];rfl

theorem spec_l1In.ev (a b c : Int) : spec_l1In.f a b c=some (decide (b≤a∧a≤c)):=by
 unfold spec_l1In.f
 by_cases h : a ≥ b
 ·rw [if_pos h];simp [h]
 ·rw [if_neg h];simp;omega

def numsOf (l : List (S84)) : List Int:=l.map (·.f0)
def txtsOf (l : List (S84)) : List ByteArray:=l.map (·.f1)
theorem numsOf_length (l : List (S84)) : (numsOf l).length=l.length:=by simp [numsOf]
theorem txtsOf_length (l : List (S84)) : (txtsOf l).length=l.length:=by simp [txtsOf]
theorem rdSd {l : List (S84)} {i : Nat} (h : i < l.length) : rd_T84 l (i : Int)=l[i]:=by unfold rd_T84;simp [List.getD,h]
theorem nums_rd {l : List (S84)} {i : Nat} (h : i < l.length) : rd (numsOf l) (i : Int)=(l[i]).f0:=by rw [rd_get (by rw [numsOf_length];exact h)];simp [numsOf]
theorem txts_at {l : List (S84)} {i : Nat} (h : i < l.length) : txt (txtsOf l) i=(l[i]).f1:=by rw [txt_get (by rw [txtsOf_length];exact h)];simp [txtsOf]
def sdOk (l : List (S84)) (n : Nat) : Bool:=rising (numsOf l) n && textsOk (txtsOf l)
theorem textsOk_no {l : List ByteArray} {i : Nat} (h : i < l.length) (hb : ¬ ((txt l i).size=(txt l 0).size∧(txt l i).size≤40)) : textsOk l=false:=by
 unfold textsOk
 have : ((List.range l.length).any fun i=>decide (40 < (l.getD i ByteArray.empty).size) || (l.getD i ByteArray.empty).size != (l.getD 0 ByteArray.empty).size)=true:=by
  refine List.any_eq_true.2 ⟨i,by simpa using h,?_⟩
  rw [Bool.or_eq_true,decide_eq_true_eq,bne_iff_ne]
  by_cases e : (txt l i).size=(txt l 0).size
  ·left
   have : ¬ (txt l i).size≤40:=fun z=>hb ⟨e,z⟩
   exact Nat.lt_of_not_le this
  ·exact .inr e
 rw [this];rfl
theorem textsOk_yes {l : List ByteArray} (h : ∀ i,i < l.length→(txt l i).size=(txt l 0).size∧(txt l i).size≤40) : textsOk l=true:=by
 unfold textsOk
 have : ((List.range l.length).any fun i=>decide (40 < (l.getD i ByteArray.empty).size) || (l.getD i ByteArray.empty).size != (l.getD 0 ByteArray.empty).size)=false:=by
  rw [List.any_eq_false]
  intro x hx
  have:=h x (by simpa using hx)
  rw [Bool.or_eq_true,decide_eq_true_eq,bne_iff_ne]
  intro z
  rcases z with z | z
  ·exact absurd z (Nat.not_lt.2 this.2)
  ·exact z this.1
 rw [this];rfl
theorem spec_l3Shards.ev_l0 (l : List (S84)) (n : Nat) (hn : n≤16) (hl : l.length≤1048576) (hw : ∀ x ∈ l,(Lit.int .i64 x.f0).wf=true) : ∀ (d i : Nat),i+d=l.length→(∀ j,j < i→riseAt (numsOf l) n j=true)→(∀ j,j < i→(txt (txtsOf l) j).size=(txt (txtsOf l) 0).size∧(txt (txtsOf l) j).size≤40) →
  Ev (fun k=>spec_l3Shards.l0 k l (n : Int) l (l.length : Int) (i : Int)) (sdOk l n)
 | 0,i,hi,ha,hb=>by
  refine Ev.step (fun k=>spec_l3Shards.l0.eq_2 _ _ _ _ _ k) ?_
  refine ev_neg (by omega) (ev_now ?_)
  unfold sdOk
  rw [rising_yes (fun j hj=>ha j (by rw [numsOf_length] at hj;omega)),textsOk_yes (fun j hj=>hb j (by rw [txtsOf_length] at hj;omega))];rfl
 | d+1,i,hi,ha,hb=>by
  have hil : i < l.length:=by omega
  have ih:=spec_l3Shards.ev_l0 l n hn hl hw d (i+1) (by omega)
  have hx:=nums_rd hil
  have ht:=txts_at hil
  have ht0:=txts_at (l:=l) (i:=0) (by omega)
  refine Ev.step (fun k=>spec_l3Shards.l0.eq_2 _ _ _ _ _ k) ?_
  refine ev_pos (by omega) (ev_pos (by omega) (ev_pos (by omega) ?_))
  rw [show wrap64 ((n : Int) - 1)=(n : Int) - 1 by unfold wrap64;omega]
  simp only [spec_l1In.ev,Option.bind_some,decide_eq_true_eq]
  rw [rdSd hil]
  have h0e : rd_T84 l 0=l[0]'(by omega):=rdSd (i:=0) (by omega)
  rw [h0e,← hx,← ht,← ht0]
  have hno : ∀ z,riseAt (numsOf l) n i=false→sdOk l n=z→z=false:=fun z h e=>by
   rw [← e];unfold sdOk
   rw [rising_no (i:=i) (by rw [numsOf_length];exact hil) h];rfl
  have hto : ¬ ((txt (txtsOf l) i).size=(txt (txtsOf l) 0).size∧(txt (txtsOf l) i).size≤40)→false=sdOk l n:=fun h=>by
   unfold sdOk
   rw [textsOk_no (i:=i) (by rw [txtsOf_length];exact hil) h,Bool.and_false]
  have hstep : riseAt (numsOf l) n i=true→Ev (fun k=>if 0 < (l.length : Int) then (if ((txt (txtsOf l) i).size : Int)=((txt (txtsOf l) 0).size : Int) then (if ((txt (txtsOf l) i).size : Int) > 40 then (some false) else (spec_l3Shards.l0 k l (n : Int) l (l.length : Int) (wrap64 ((i : Int)+1)))) else (some false)) else (none)) (sdOk l n):=by
   intro hr
   refine ev_pos (by omega) ?_
   by_cases c1 : (txt (txtsOf l) i).size=(txt (txtsOf l) 0).size
   ·refine ev_pos (by omega) ?_
    by_cases c2 : (txt (txtsOf l) i).size≤40
    ·refine ev_neg (by omega) ?_
     rw [inc (by omega)]
     exact ih (fun j hj=>by by_cases e : j=i;exact e ▸ hr;exact ha j (by omega)) (fun j hj=>by by_cases e : j=i;exact e ▸ ⟨c1,c2⟩;exact hb j (by omega))
    ·exact ev_pos (by omega) (ev_now (hto (fun z=>c2 z.2)))
   ·exact ev_neg (by omega) (ev_now (hto (fun z=>c1 z.1)))
  by_cases c : 0≤rd (numsOf l) (i : Int)∧rd (numsOf l) (i : Int)≤(n : Int) - 1
  ·refine ev_pos c ?_
   by_cases hz : i=0
   ·subst hz
    exact ev_neg (by omega) (hstep (riseAt_yes c (.inl rfl)))
   ·have hp : i - 1 < l.length:=by omega
    have e : wrap64 ((i : Int) - 1)=((i - 1 : Nat) : Int):=by unfold wrap64;omega
    rw [e,rdSd hp,← nums_rd hp]
    refine ev_pos (by omega) (ev_pos (by omega) (ev_pos (by omega) ?_))
    by_cases c2 : rd (numsOf l) ((i - 1 : Nat) : Int) < rd (numsOf l) (i : Int)
    ·exact ev_neg (by omega) (hstep (riseAt_yes c (.inr c2)))
    ·exact ev_pos (by omega) (ev_now (hno _ (riseAt_no (fun z=>by rcases z.2 with y | y;exact hz y;exact c2 y)) rfl).symm)
  ·exact ev_neg c (ev_now (hno _ (riseAt_no (fun z=>c z.1)) rfl).symm)
theorem spec_l3Shards.ev (l : List (S84)) (n : Nat) (hn : n≤16) (hl : l.length≤1048576) (hw : ∀ x ∈ l,(Lit.int .i64 x.f0).wf=true) : Ev (fun k=>spec_l3Shards.f k l (n : Int)) (sdOk l n):=by
 unfold spec_l3Shards.f
 exact spec_l3Shards.ev_l0 l n hn hl hw l.length 0 (by omega) (fun j hj=>by omega) (fun j hj=>by omega)

/-- What the first shards tell: rows of a matrix, texts. -/
def decM (M : List (List Int)) (l : List (S84)) : List ByteArray × Bool:=if (invM (someM M (numsOf l))).2=true then (mixT (invM (someM M (numsOf l))).1 (txtsOf l),true) else ([],false)
theorem dec_sq {M : List (List Int)} {n : Nat} {l : List (S84)} (hM : ∀ r ∈ M,Bytes r∧r.length=n) (hn : 1≤n) (hn2 : n≤16) (hl : l.length=n) (hin : ∀ j,j < l.length→0≤rd (numsOf l) (j : Int)∧rd (numsOf l) (j : Int) < (M.length : Int)) : sqN (someM M (numsOf l))=true∧(someM M (numsOf l)).length=n:=by
 have hlen : (someM M (numsOf l)).length=n:=by rw [someM_length,numsOf_length,hl]
 refine ⟨sqN_iff.2 ⟨by omega,by omega,fun r hr=>?_⟩,hlen⟩
 rw [hlen]
 exact someM_ok hM (fun j hj=>hin j (by rw [numsOf_length] at hj;exact hj)) r hr
theorem take_nums (l : List (S84)) (n : Nat) : numsOf (l.take n)=(numsOf l).take n:=by simp [numsOf,List.map_take]
theorem take_txts (l : List (S84)) (n : Nat) : txtsOf (l.take n)=(txtsOf l).take n:=by simp [txtsOf,List.map_take]
theorem sdOk_at {l : List (S84)} {n : Nat} (h : sdOk l n=true) : (∀ j,j < l.length→0≤rd (numsOf l) (j : Int)∧rd (numsOf l) (j : Int) < (n : Int))∧(∀ j,j < l.length→(txt (txtsOf l) j).size=(txt (txtsOf l) 0).size∧(txt (txtsOf l) j).size≤40)∧l.length≤n:=by
 unfold sdOk at h
 rw [Bool.and_eq_true] at h
 have h1:=rising_in h.1
 have h2:=textsOk_all h.2
 have h3:=rising_len h.1
 rw [numsOf_length] at h1 h3
 rw [txtsOf_length] at h2
 exact ⟨h1,h2,h3⟩
/-- The first shards of good ones. -/
theorem sd_take {l : List (S84)} {n k : Nat} (h : sdOk l n=true) (hk : k≤l.length) : (l.take k).length=k∧(∀ j,j < (l.take k).length→0≤rd (numsOf (l.take k)) (j : Int)∧rd (numsOf (l.take k)) (j : Int) < (n : Int))∧∀ j,j < (l.take k).length→(txt (txtsOf (l.take k)) j).size=(txt (txtsOf (l.take k)) 0).size∧(txt (txtsOf (l.take k)) j).size≤40:=by
 obtain ⟨h1,h2,_⟩:=sdOk_at h
 have hl : (l.take k).length=k:=by rw [List.length_take];omega
 refine ⟨hl,fun j hj=>?_,fun j hj=>?_⟩
 ·have hj2 : j < l.length:=by omega
  have:=h1 j hj2
  rw [nums_rd hj2] at this
  rw [nums_rd hj]
  simpa using this
 ·have hj2 : j < l.length:=by omega
  have:=h2 j hj2
  rw [txts_at hj2,txts_at (l:=l) (i:=0) (by omega)] at this
  rw [txts_at hj,txts_at (l:=l.take k) (i:=0) (by omega)]
  simpa using this

theorem rdSS (l : List (List Int)) (i : Nat) (h : i < l.length) : rd_L1 l (i : Int)=l[i]:=by unfold rd_L1;simp [List.getD,h]
theorem rdSS0 (l : List (List Int)) (i : Int) : rd_L1 l i=l.getD i.toNat []:=rfl
theorem impl_Times.ev_l0 (b : Nat) (hb : b < 256) : ∀ (n i o x : Nat),i+n=8→o < 256→x < 256 →
  Ev (fun k=>impl_Times.l0 k (b : Int) (o : Int) (i : Int) (x : Int)) ((T n o x (b / 2 ^ i) : Nat) : Int)
 | 0,i,o,x,hi,ho,hx=>by
  refine Ev.step (fun k=>impl_Times.l0.eq_2 _ _ _ _ k) ?_
  refine ev_neg (by omega) (ev_now ?_)
  simp only [T]
  omega
 | n+1,i,o,x,hi,ho,hx=>by
  refine Ev.step (fun k=>impl_Times.l0.eq_2 _ _ _ _ k) ?_
  refine ev_pos (by omega) (ev_pos (by omega) ?_)
  have e1 : shr .u8 (b : Int) (i : Int)=((b / 2 ^ i : Nat) : Int):=by
   unfold shr
   rw [Nat.min_eq_left (by simp only [IntKind.bits];omega)]
   simp
  have hd : b / 2 ^ i < 256:=Nat.lt_of_le_of_lt (Nat.div_le_self _ _) hb
  have e2 : wrap64 ((x : Int)*2)=((2*x : Nat) : Int):=by rw [wrap_id (by omega) (by omega)];omega
  have e3 : wrap64 ((i : Int)+1)=((i+1 : Nat) : Int):=by rw [wrap_id (by omega) (by omega)];omega
  rw [e1,and1_u8 hd,e2,e3]
  have e4 : Go.bits .xor .i64 (o : Int) (x : Int)=((o ^^^ x : Nat) : Int):=xor_i64 (by omega) (by omega)
  have e5 : Go.bits .xor .i64 ((2*x : Nat) : Int) 283=((2*x ^^^ 283 : Nat) : Int):=xor_i64 (m:=2*x) (n:=283) (by omega) (by omega)
  have e6 : b / 2 ^ i / 2=b / 2 ^ (i+1):=by rw [Nat.div_div_eq_div_mul,Nat.pow_succ]
  rw [e4,e5]
  have hT : T (n+1) o x (b / 2 ^ i)=T n (if b / 2 ^ i % 2=1 then o ^^^ x else o) (xt x) (b / 2 ^ (i+1)):=by rw [T,e6]
  rw [hT]
  have hxt:=xt_lt hx
  have hox:=xor_lt ho hx
  by_cases h1 : b / 2 ^ i % 2=1
  ·rw [if_pos h1]
   refine ev_pos (by omega) ?_
   by_cases h2 : 2*x > 255
   ·refine ev_pos (by omega) ?_
    have : xt x=2*x ^^^ 283:=by unfold xt;rw [if_pos h2]
    rw [this] at hxt ⊢
    exact impl_Times.ev_l0 b hb n (i+1) _ _ (by omega) hox hxt
   ·refine ev_neg (by omega) ?_
    have : xt x=2*x:=by unfold xt;rw [if_neg h2]
    rw [this] at hxt ⊢
    exact impl_Times.ev_l0 b hb n (i+1) _ _ (by omega) hox hxt
  ·rw [if_neg h1]
   refine ev_neg (by omega) ?_
   by_cases h2 : 2*x > 255
   ·refine ev_pos (by omega) ?_
    have : xt x=2*x ^^^ 283:=by unfold xt;rw [if_pos h2]
    rw [this] at hxt ⊢
    exact impl_Times.ev_l0 b hb n (i+1) _ _ (by omega) ho hxt
   ·refine ev_neg (by omega) ?_
    have : xt x=2*x:=by unfold xt;rw [if_neg h2]
    rw [this] at hxt ⊢
    exact impl_Times.ev_l0 b hb n (i+1) _ _ (by omega) ho hxt
theorem impl_Times.ev {a b : Int} (ha : Byte a) (hb : Byte b) : Ev (fun k=>impl_Times.f k a b) (mul a b):=by
 obtain ⟨m,hm,rfl⟩:=ha.nat
 obtain ⟨n,hn,rfl⟩:=hb.nat
 unfold impl_Times.f
 rw [wrap_id (by omega) (by omega)]
 have h:=impl_Times.ev_l0 n hn 8 0 0 m rfl (by decide) hm
 exact ev_eq h (by unfold Gf.mul gm;simp)

theorem impl_power.ev_l0 : ∀ (N n : Nat) (a o : Int),n≤N→n < 4294967296→Byte a→Byte o→Ev (fun k=>impl_power.l0 k a (n : Int) o) (mul o (pow a n)):=by
 intro N
 induction N with
 | zero =>
  intro n a o hN hn ha ho
  obtain rfl : n=0:=by omega
  refine Ev.step (fun k=>impl_power.l0.eq_2 _ _ _ k) ?_
  exact ev_neg (by omega) (ev_now (by rw [pow_zero,mul_one ho]))
 | succ N ih =>
  intro n a o hN hn ha ho
  refine Ev.step (fun k=>impl_power.l0.eq_2 _ _ _ k) ?_
  by_cases h0 : n=0
  ·subst h0
   exact ev_neg (by omega) (ev_now (by rw [pow_zero,mul_one ho]))
  refine ev_pos (by omega) ?_
  have e : ((n : Int) / 2)=((n / 2 : Nat) : Int):=by omega
  have haa:=Byte.mul ha a
  have hsq : pow (mul a a) (n / 2)=pow a (2*(n / 2)):=by rw [pow_mul ha,pow_two ha]
  rw [and1_i64 hn,e]
  by_cases h1 : n % 2=1
  ·refine ev_pos (by omega) ?_
   refine ev_bind (impl_Times.ev ho ha) (ev_bind (impl_Times.ev ha ha) ?_)
   refine ev_eq (ih (n / 2) _ _ (by omega) (by omega) haa (Byte.mul ho a)) ?_
   have hn2 : n=1+2*(n / 2):=by omega
   rw [hsq,mul_assoc ho ha (Byte.pow ha _)]
   conv=>rhs;rw [hn2,pow_add ha,pow_one ha]
  ·refine ev_neg (by omega) ?_
   refine ev_bind (impl_Times.ev ha ha) ?_
   refine ev_eq (ih (n / 2) _ _ (by omega) (by omega) haa ho) ?_
   have hn2 : n=2*(n / 2):=by omega
   rw [hsq,← hn2]
theorem impl_power.ev {a : Int} (ha : Byte a) (n : Nat) (hn : n < 4294967296) : Ev (fun k=>impl_power.f k a (n : Int)) (pow a n):=by
 unfold impl_power.f
 refine ev_eq (impl_power.ev_l0 n n a 1 (Nat.le_refl _) hn ha .one) ?_
 exact one_mul (Byte.pow ha n)

theorem impl_identity.ev_l0 (n : Nat) (hn : n≤1048576) : ∀ (d i : Nat) (o : List (List Int)),i+d=n→o=(idM n).take i→Ev (fun k=>impl_identity.l0 k (n : Int) o (n : Int) (i : Int)) (idM n)
 | 0,i,o,hi,ho=>by
  refine Ev.step (fun k=>impl_identity.l0.eq_2 _ _ _ _ k) ?_
  refine ev_neg (by omega) (ev_now ?_)
  rw [ho,List.take_of_length_le (by simp [idM];omega)]
 | d+1,i,o,hi,ho=>by
  have hl : o.length=i:=by rw [ho,List.length_take];simp [idM];omega
  refine Ev.step (fun k=>impl_identity.l0.eq_2 _ _ _ _ k) ?_
  simp only [Option.bind_some,Int.toNat_natCast,List.length_replicate]
  refine ev_pos (by omega) (ev_pos (by omega) (ev_pos (by omega) (ev_pos (by omega) (ev_pos (by omega) (ev_pos (by omega) ?_)))))
  rw [inc (by omega)]
  refine impl_identity.ev_l0 n hn d (i+1) _ (by omega) ?_
  rw [List.take_succ_eq_append_getElem (by simp [idM];omega),← ho]
  simp [idM]
theorem impl_identity.ev (n : Nat) (hn : n≤1048576) : Ev (fun k=>impl_identity.f k (n : Int)) (idM n):=by
 unfold impl_identity.f
 exact impl_identity.ev_l0 n hn n 0 [] (by omega) rfl

theorem impl_filled.ev_l1 {E : Nat→Int→Int→Option Int} (n m : Nat) (f : Nat→Nat→Int) (hm : m≤1048576) (i : Nat) (hE : ∀ j,j < m→Ev (fun k=>E k (i : Int) (j : Int)) (f i j)) (out : List (List Int)) (ho : out.length < 5864062014805) {R : List (List Int)}
  (K : Ev (fun k=>impl_filled.l0 E k (m : Int) (out ++ [(List.range m).map (f i)]) (n : Int) (wrap64 ((i : Int)+1))) R) : ∀ (d j : Nat) (o : List Int),j+d=m→o=(List.range j).map (f i) →
  Ev (fun k=>impl_filled.l1 E k (m : Int) out (i : Int) o (n : Int) (i : Int) (m : Int) (j : Int)) R
 | 0,j,o,hj,hoj=>by
  refine Ev.step (fun k=>impl_filled.l1.eq_2 _ _ _ _ _ _ _ _ _ k) ?_
  refine ev_neg (by omega) (ev_pos ho ?_)
  rw [hoj,show j=m by omega]
  exact K
 | d+1,j,o,hj,hoj=>by
  have hol : o.length=j:=by rw [hoj];simp
  refine Ev.step (fun k=>impl_filled.l1.eq_2 _ _ _ _ _ _ _ _ _ k) ?_
  refine ev_pos (by omega) (ev_bind (hE j (by omega)) (ev_pos (by omega) ?_))
  rw [inc (by omega)]
  refine impl_filled.ev_l1 n m f hm i hE out ho K d (j+1) _ (by omega) ?_
  rw [hoj,List.range_succ,List.map_append]
  rfl
theorem impl_filled.ev_l0 {E : Nat→Int→Int→Option Int} (n m : Nat) (f : Nat→Nat→Int) (hn : n≤1048576) (hm : m≤1048576) (hE : ∀ i,i < n→∀ j,j < m→Ev (fun k=>E k (i : Int) (j : Int)) (f i j)) : ∀ (d i : Nat) (o : List (List Int)),i+d=n→o=tab i m f →
  Ev (fun k=>impl_filled.l0 E k (m : Int) o (n : Int) (i : Int)) (tab n m f)
 | 0,i,o,hi,ho=>by
  refine Ev.step (fun k=>impl_filled.l0.eq_2 _ _ _ _ _ k) ?_
  refine ev_neg (by omega) (ev_now ?_)
  rw [ho,show i=n by omega]
 | d+1,i,o,hi,ho=>by
  have hol : o.length=i:=by rw [ho,tab_length]
  have ih:=impl_filled.ev_l0 n m f hn hm hE d (i+1) (o ++ [(List.range m).map (f i)]) (by omega) (by
   rw [ho]
   unfold tab
   rw [List.range_succ,List.map_append]
   rfl)
  refine Ev.step (fun k=>impl_filled.l0.eq_2 _ _ _ _ _ k) ?_
  refine ev_pos (by omega) ?_
  exact impl_filled.ev_l1 n m f hm i (hE i (by omega)) o (by omega) (by rw [inc (by omega)];exact ih) m 0 [] (by omega) rfl
theorem impl_filled.ev {E : Nat→Int→Int→Option Int} (n m : Nat) (f : Nat→Nat→Int) (hn : n≤1048576) (hm : m≤1048576) (hE : ∀ i,i < n→∀ j,j < m→Ev (fun k=>E k (i : Int) (j : Int)) (f i j)) : Ev (fun k=>impl_filled.f E k (n : Int) (m : Int)) (tab n m f):=by
 unfold impl_filled.f
 exact impl_filled.ev_l0 n m f hn hm hE n 0 [] (by omega) rfl

theorem impl_cauchy.ev (n m : Nat) (hn : n≤1048576) (hm : m≤1048576) : Ev (fun k=>impl_cauchy.f k (n : Int) (m : Int)) (tab n m (cauAt m)):=by
 unfold impl_cauchy.f
 refine impl_filled.ev n m (cauAt m) hn hm (fun i hi j hj=>?_)
 unfold impl_cauchy.E
 exact ev_eq (impl_power.ev (mod_byte _) 254 (by decide)) (inv_pow _).symm

theorem impl_Local_data.ev {g e m : Int} (h : GoodLocal g e m) : impl_Local_data.f g e m=some (g*e):=by
 unfold impl_Local_data.f
 rw [(small_mul h.1).1]

theorem laws_toLocal.ev (g e m : Int) : laws_toLocal.f g e m=some (g,e,m):=rfl

theorem laws_szShard.ev (n : Int) (s : ByteArray) (hs : s.size≤maxLen) (a : Int) (ha : 0≤a) (ha2 : a≤1048576) : laws_szShard.f n s a=some (if (s.size : Int)≤a then a - (s.size : Int) else -1):=by
 unfold laws_szShard.f
 unfold maxLen at hs
 have e : wrap64 (a - (s.size : Int))=a - (s.size : Int):=by unfold wrap64;omega
 rw [e]
 by_cases h : (s.size : Int)≤a
 ·rw [if_neg (by omega),if_pos h]
 ·rw [if_pos (by omega),if_neg h]

def totSh : List (S160)→Nat
 | []=>0
 | x :: l=>x.f1.size+totSh l
theorem mem_totSh {l : List (S160)} {x : S160} (h : x ∈ l) : x.f1.size≤totSh l:=by
 induction l with
 | nil=>simp at h
 | cons y l ih =>
  rcases List.mem_cons.1 h with rfl | h
  ·simp [totSh]
  ·have:=ih h;simp only [totSh];omega
theorem laws_szShardS.ev_l0 (l : List (S160)) (hl : l.length < 4611686018427387904) (hs : ∀ x ∈ l,x.f1.size≤maxLen) : ∀ (n i : Nat) (a : Int),i+n=l.length→0≤a→a≤1048576 →
  Ev (fun k=>laws_szShardS.l0 k l a (i : Int)) (if (totSh (l.drop i) : Int)≤a then a - (totSh (l.drop i) : Int) else -1)
 | 0,i,a,hi,ha,_=>by
  refine Ev.step (fun k=>laws_szShardS.l0.eq_2 _ _ _ k) ?_
  refine ev_neg (by omega) (ev_now ?_)
  rw [List.drop_eq_nil_of_le (by omega)]
  show a=if ((0 : Nat) : Int)≤a then a - ((0 : Nat) : Int) else -1
  rw [if_pos (by omega)];omega
 | n+1,i,a,hi,ha,hb=>by
  have hd:=List.drop_eq_getElem_cons (show i < l.length by omega)
  have ht : totSh (l.drop i)=(l[i]'(by omega)).f1.size+totSh (l.drop (i+1)):=by rw [hd];rfl
  have e : rd_T160 l (i : Int)=l[i]'(by omega):=by unfold rd_T160;simp [List.getD,show i < l.length by omega]
  refine Ev.step (fun k=>laws_szShardS.l0.eq_2 _ _ _ k) ?_
  refine ev_pos (by omega) (ev_pos (by omega) ?_)
  rw [e,laws_szShard.ev _ _ (hs _ (List.getElem_mem _)) a ha hb]
  simp only [Option.bind_some]
  rw [ht]
  by_cases h : ((l[i]'(by omega)).f1.size : Int)≤a
  ·rw [if_pos h]
   refine ev_neg (by omega) ?_
   rw [inc (by omega)]
   refine ev_eq (laws_szShardS.ev_l0 l hl hs n (i+1) _ (by omega) (by omega) (by omega)) ?_
   by_cases h2 : (totSh (l.drop (i+1)) : Int)≤a - ((l[i]'(by omega)).f1.size : Int)
   ·rw [if_pos h2,if_pos (by omega)];omega
   ·rw [if_neg h2,if_neg (by omega)]
  ·rw [if_neg h]
   refine ev_pos (by decide) (ev_now ?_)
   rw [if_neg (by omega)]
theorem laws_szShardS.ev (l : List (S160)) (hl : l.length≤maxLen) (hs : ∀ x ∈ l,x.f1.size≤maxLen) : Ev (fun k=>laws_szShardS.f k l 1048576) (if (l.length : Int)+(totSh l : Int)≤1048576 then 1048576 - (l.length : Int) - (totSh l : Int) else -1):=by
 unfold laws_szShardS.f
 have hl2:=hl
 unfold maxLen at hl2
 have e : wrap64 (1048576 - (l.length : Int))=1048576 - (l.length : Int):=by unfold wrap64;omega
 rw [e]
 by_cases h : (l.length : Int)≤1048576
 ·refine ev_neg (by omega) ?_
  refine ev_eq (laws_szShardS.ev_l0 l (by omega) hs l.length 0 _ (by omega) (by omega) (by omega)) ?_
  rw [List.drop_zero]
  by_cases h2 : (totSh l : Int)≤1048576 - (l.length : Int)
  ·rw [if_pos h2,if_pos (by omega)]
  ·rw [if_neg h2,if_neg (by omega)]
 ·refine ev_pos (by omega) (ev_now ?_)
  rw [if_neg (by omega)]

theorem laws_toShard.ev (n : Int) (s : ByteArray) : laws_toShard.f n s=some (n,s):=rfl

def toSd (x : S160) : S84:=⟨x.f0,x.f1⟩
theorem laws_toShardS.ev_l0 (l : List (S160)) (hl : l.length < 4611686018427387904) : ∀ (n i : Nat) (o : List (S84)),i+n=l.length→o.length=l.length→o.take i=(l.map toSd).take i →
  Ev (fun k=>laws_toShardS.l0 k l o (i : Int)) (l.map toSd)
 | 0,i,o,hi,ho,ht=>by
  refine Ev.step (fun k=>laws_toShardS.l0.eq_2 _ _ _ k) ?_
  refine ev_neg (by omega) (ev_now ?_)
  rw [List.take_of_length_le (by omega),List.take_of_length_le (by simp;omega)] at ht
  exact ht
 | n+1,i,o,hi,ho,ht=>by
  refine Ev.step (fun k=>laws_toShardS.l0.eq_2 _ _ _ k) ?_
  simp only [laws_toShard.ev,Option.bind_some]
  refine ev_pos (by omega) (ev_pos (by omega) (ev_pos (by omega) ?_))
  rw [inc (by omega),Int.toNat_natCast]
  refine laws_toShardS.ev_l0 l hl n (i+1) _ (by omega) (by simpa using ho) ?_
  rw [List.take_succ_eq_append_getElem (by simp;omega),List.take_succ_eq_append_getElem (by simp;omega),← ht]
  have e : rd_T160 l (i : Int)=l[i]'(by omega):=by unfold rd_T160;simp [List.getD,show i < l.length by omega]
  simp [e,toSd,List.take_set_of_le]
theorem laws_toShardS.ev (l : List (S160)) (hl : l.length≤1048576) : Ev (fun k=>laws_toShardS.f k l) (l.map toSd):=by
 unfold laws_toShardS.f
 refine ev_pos (by omega) (ev_pos (by omega) ?_)
 exact laws_toShardS.ev_l0 l (by omega) l.length 0 _ (by omega) (by simp) rfl

theorem laws_eqShard.ev (a : Int) (s : ByteArray) : laws_eqShard.f a s a s=some true:=by
 unfold laws_eqShard.f
 rw [if_pos rfl,if_pos rfl]

theorem laws_eqShardS.ev_l0 (l : List (S84)) (hl : l.length < 4611686018427387904) : ∀ (n i : Nat),i+n=l.length→Ev (fun k=>laws_eqShardS.l0 k l l (i : Int)) true
 | 0,i,hi=>by
  refine Ev.step (fun k=>laws_eqShardS.l0.eq_2 _ _ _ k) ?_
  exact ev_neg (by omega) (ev_now rfl)
 | n+1,i,hi=>by
  refine Ev.step (fun k=>laws_eqShardS.l0.eq_2 _ _ _ k) ?_
  simp only [laws_eqShard.ev,Option.bind_some]
  refine ev_pos (by omega) (ev_pos (by omega) (ev_pos (by omega) (ev_pos (by trivial) ?_)))
  rw [inc (by omega)]
  exact laws_eqShardS.ev_l0 l hl n (i+1) (by omega)
theorem laws_eqShardS.ev (l : List (S84)) (hl : l.length≤281474976710656) : Ev (fun k=>laws_eqShardS.f k l l) true:=by
 unfold laws_eqShardS.f
 exact ev_pos rfl (laws_eqShardS.ev_l0 l (by omega) l.length 0 (by omega))

theorem laws_eqStringS.ev_l0 (l : List ByteArray) (hl : l.length < 4611686018427387904) : ∀ (n i : Nat),i+n=l.length→Ev (fun k=>laws_eqStringS.l0 k l l (i : Int)) true
 | 0,i,hi=>by
  refine Ev.step (fun k=>laws_eqStringS.l0.eq_2 _ _ _ k) ?_
  exact ev_neg (by omega) (ev_now rfl)
 | n+1,i,hi=>by
  refine Ev.step (fun k=>laws_eqStringS.l0.eq_2 _ _ _ k) ?_
  refine ev_pos (by omega) (ev_pos (by omega) (ev_pos (by omega) (ev_pos rfl ?_)))
  rw [inc (by omega)]
  exact laws_eqStringS.ev_l0 l hl n (i+1) (by omega)
theorem laws_eqStringS.ev (l : List ByteArray) (hl : l.length≤281474976710656) : Ev (fun k=>laws_eqStringS.f k l l) true:=by
 unfold laws_eqStringS.f
 exact ev_pos rfl (laws_eqStringS.ev_l0 l (by omega) l.length 0 (by omega))

theorem laws_markText.ev_l0 : ∀ (f x : Nat) (s : List Int),x < 10 ^ f→x < 4611686018427387904→s.length+f≤1000→Ev (fun k=>laws_markText.l0 k (x : Int) (strOfNums s)) (strOfNums (mtl f x s))
 | 0,x,s,h,h2,hs=>by
  have e : x=0:=by omega
  subst e
  refine Ev.step (fun k=>laws_markText.l0.eq_2 _ _ k) ?_
  refine ev_neg (by omega) (ev_pos (by rw [strOfNums_size];omega) (ev_now ?_))
  exact str_append [109] s
 | f+1,x,s,h,h2,hs=>by
  unfold mtl
  by_cases e : x=0
  ·rw [if_pos e]
   subst e
   refine Ev.step (fun k=>laws_markText.l0.eq_2 _ _ k) ?_
   refine ev_neg (by omega) (ev_pos (by rw [strOfNums_size];omega) (ev_now ?_))
   exact str_append [109] s
  ·rw [if_neg e]
   refine Ev.step (fun k=>laws_markText.l0.eq_2 _ _ k) ?_
   refine ev_pos (by omega) ?_
   simp only [Option.bind_some]
   have e1 : Int.tmod (x : Int) 10=((x % 10 : Nat) : Int):=by rw [Int.tmod_eq_emod_of_nonneg (by omega)];omega
   have e2 : Int.tdiv (x : Int) 10=((x / 10 : Nat) : Int):=by rw [Int.tdiv_eq_ediv_of_nonneg (by omega)];omega
   have e3 : (wrap64 (48+((x % 10 : Nat) : Int))) % 256=48+((x % 10 : Nat) : Int):=by unfold wrap64;omega
   have e4 : wrap64 ((x / 10 : Nat) : Int)=((x / 10 : Nat) : Int):=by unfold wrap64;omega
   rw [e1,e2,e3,e4]
   refine ev_pos (by rw [strOfNums_size,strOfNums_size,List.length_singleton];omega) ?_
   rw [str_append]
   exact laws_markText.ev_l0 f (x / 10) _ (by rw [Nat.pow_succ] at h;omega) (by omega) (by simp only [List.singleton_append,List.length_cons];omega)
theorem laws_markText.ev (a : Int) (h : a < 4611686018427387904) : Ev (fun k=>laws_markText.f k a) (mtx a):=by
 unfold laws_markText.f mtx
 by_cases c : a≤0
 ·rw [if_pos c];exact ev_pos c (ev_now rfl)
 ·rw [if_neg c]
  refine ev_neg c ?_
  obtain ⟨x,rfl⟩:=Int.eq_ofNat_of_zero_le (show 0≤a by omega)
  rw [Int.toNat_natCast]
  exact laws_markText.ev_l0 20 x [] (by omega) (by omega) (by simp)

def markSd (a : Int) (n : Nat) : List (S84):=(List.range n).map fun i=>⟨a+2*(i : Nat),mtx (a+2*(i : Nat)+1)⟩
theorem markSd_length (a : Int) (n : Nat) : (markSd a n).length=n:=by simp [markSd]
theorem rd_sd (l : List (S84)) (i : Nat) (h : i < l.length) : rd_T84 l (i : Int)=l[i]:=by unfold rd_T84;simp [List.getD,h]
theorem laws_markShardS.ev_l0 (a : Int) (m : Nat) (ha : 0≤a) (hm : a+2*m < 4611686018427387904) : ∀ (n i : Nat) (o : List (S84)),i+n=m→o.length=m→o.take i=(markSd a m).take i →
  Ev (fun k=>laws_markShardS.l0 k o (a+2*(i : Nat)) (i : Int)) (a+2*(m : Nat),markSd a m)
 | 0,i,o,hi,ho,ht=>by
  refine Ev.step (fun k=>laws_markShardS.l0.eq_2 _ _ _ k) ?_
  refine ev_neg (by omega) (ev_now ?_)
  have hb:=markSd_length a m
  rw [List.take_of_length_le (by omega),List.take_of_length_le (by omega)] at ht
  subst ht
  have : i=m:=by omega
  rw [this]
 | n+1,i,o,hi,ho,ht=>by
  have e : wrap64 (a+2*(i : Nat)+1)=a+2*(i : Nat)+1:=by unfold wrap64;omega
  have e2 : wrap64 (a+2*(i : Nat)+1+1)=a+2*((i+1 : Nat) : Int):=by unfold wrap64;omega
  refine Ev.step (fun k=>laws_markShardS.l0.eq_2 _ _ _ k) ?_
  rw [e,e2]
  refine ev_pos (by omega) (ev_pos (by omega) ?_)
  simp only [Option.bind_some]
  refine ev_bind (laws_markText.ev _ (by omega)) ?_
  rw [inc (by omega),Int.toNat_natCast]
  refine laws_markShardS.ev_l0 a m ha hm n (i+1) _ (by omega) (by simpa using ho) ?_
  have hb:=markSd_length a m
  rw [List.take_succ_eq_append_getElem (by simp;omega),List.take_succ_eq_append_getElem (by omega),← ht]
  simp [markSd,rd_T84,List.take_set_of_le,List.getD,show i < o.length by omega]
theorem laws_markShardS.ev (l : List (S84)) (a : Int) (ha : 0≤a) (hm : a+2*l.length < 4611686018427387904) : Ev (fun k=>laws_markShardS.f k l a) (a+2*(l.length : Nat),markSd a l.length):=by
 unfold laws_markShardS.f
 have:=laws_markShardS.ev_l0 a l.length ha hm l.length 0 l (by omega) rfl rfl
 simpa using this

theorem laws_markStringS.ev_l0 (a : Int) (m : Nat) (ha : 0≤a) (hm : a+m < 4611686018427387904) : ∀ (n i : Nat) (o : List ByteArray),i+n=m→o.length=m→o.take i=(markTS a m).take i →
  Ev (fun k=>laws_markStringS.l0 k o (a+(i : Nat)) (i : Int)) (a+(m : Nat),markTS a m)
 | 0,i,o,hi,ho,ht=>by
  refine Ev.step (fun k=>laws_markStringS.l0.eq_2 _ _ _ k) ?_
  refine ev_neg (by omega) (ev_now ?_)
  have hb:=markTS_length a m
  rw [List.take_of_length_le (by omega),List.take_of_length_le (by omega)] at ht
  subst ht
  have : i=m:=by omega
  rw [this]
 | n+1,i,o,hi,ho,ht=>by
  refine Ev.step (fun k=>laws_markStringS.l0.eq_2 _ _ _ k) ?_
  refine ev_pos (by omega) (ev_bind (laws_markText.ev _ (by omega)) (ev_pos (by omega) ?_))
  have e : wrap64 (a+(i : Nat)+1)=a+((i+1 : Nat) : Int):=by unfold wrap64;omega
  rw [e,inc (by omega),Int.toNat_natCast]
  refine laws_markStringS.ev_l0 a m ha hm n (i+1) _ (by omega) (by simpa using ho) ?_
  have hb:=markTS_length a m
  rw [take_set_T _ _ _ (by omega),ht,List.take_succ_eq_append_getElem (by omega)]
  simp [markTS]
theorem laws_markStringS.ev (l : List ByteArray) (a : Int) (ha : 0≤a) (hm : a+l.length < 4611686018427387904) : Ev (fun k=>laws_markStringS.f k l a) (a+(l.length : Nat),markTS a l.length):=by
 unfold laws_markStringS.f
 have:=laws_markStringS.ev_l0 a l.length ha hm l.length 0 l (by omega) rfl rfl
 simpa using this

theorem laws_heldStringS.ev_l0 (a : Int) (m : Nat) (ha : 0≤a) (hm : a+m < 4611686018427387904) : ∀ (n i : Nat),i+n=m →
  Ev (fun k=>laws_heldStringS.l0 k (markTS a m) (a+(i : Nat)) (i : Int)) (a+(m : Nat))
 | 0,i,hi=>by
  have hb:=markTS_length a m
  refine Ev.step (fun k=>laws_heldStringS.l0.eq_2 _ _ _ k) ?_
  refine ev_neg (by omega) (ev_now ?_)
  have : i=m:=by omega
  rw [this]
 | n+1,i,hi=>by
  have hb:=markTS_length a m
  refine Ev.step (fun k=>laws_heldStringS.l0.eq_2 _ _ _ k) ?_
  have e : wrap64 (a+(i : Nat)+1)=a+((i+1 : Nat) : Int):=by unfold wrap64;omega
  rw [rdOf_nat,markTS_get _ _ _ (by omega),e,inc (by omega)]
  refine ev_pos (by omega) (ev_pos (by omega) (ev_bind (laws_markText.ev _ (by omega)) (ev_pos rfl ?_)))
  exact laws_heldStringS.ev_l0 a m ha hm n (i+1) (by omega)
theorem laws_heldStringS.ev (a : Int) (m : Nat) (ha : 0≤a) (hm : a+m < 4611686018427387904) : Ev (fun k=>laws_heldStringS.f k (markTS a m) a) (a+(m : Nat)):=by
 unfold laws_heldStringS.f
 have:=laws_heldStringS.ev_l0 a m ha hm m 0 (by omega)
 simpa using this

theorem spec_l1Times.ev_l0 : ∀ (n o x y : Nat),y < 2 ^ n→n≤8→o < 256→x < 256 →
  Ev (fun k=>spec_l1Times.l0 k (o : Int) (x : Int) (y : Int)) ((T n o x y : Nat) : Int)
 | 0,o,x,y,hy,_,ho,hx=>by
  refine Ev.step (fun k=>spec_l1Times.l0.eq_2 _ _ _ k) ?_
  have : y=0:=by simpa using hy
  subst this
  refine ev_neg (by decide) (ev_now ?_)
  simp only [T]
  omega
 | n+1,o,x,y,hy,hn,ho,hx=>by
  have hy8 : y < 256:=Nat.lt_of_lt_of_le hy (Nat.pow_le_pow_right (n:=2) (by decide) hn)
  by_cases h0 : y=0
  ·subst h0
   refine Ev.step (fun k=>spec_l1Times.l0.eq_2 _ _ _ k) ?_
   refine ev_neg (by decide) (ev_now ?_)
   rw [T_zero]
   omega
  refine Ev.step (fun k=>spec_l1Times.l0.eq_2 _ _ _ k) ?_
  refine ev_pos (by omega) ?_
  have e2 : wrap64 ((x : Int)*2)=((2*x : Nat) : Int):=by rw [wrap_id (by omega) (by omega)];omega
  have e3 : ((y : Int) / 2)=((y / 2 : Nat) : Int):=by omega
  have e4 : Go.bits .xor .i64 (o : Int) (x : Int)=((o ^^^ x : Nat) : Int):=xor_i64 (by omega) (by omega)
  have e5 : Go.bits .xor .i64 ((2*x : Nat) : Int) 283=((2*x ^^^ 283 : Nat) : Int):=xor_i64 (m:=2*x) (n:=283) (by omega) (by omega)
  rw [and1_i64 (by omega),e2,e3,e4,e5]
  have hT : T (n+1) o x y=T n (if y % 2=1 then o ^^^ x else o) (xt x) (y / 2):=by rw [T]
  rw [hT]
  have hxt:=xt_lt hx
  have hox:=xor_lt ho hx
  have hh : y / 2 < 2 ^ n:=by rw [Nat.pow_succ] at hy;omega
  by_cases h1 : y % 2=1
  ·rw [if_pos h1]
   refine ev_pos (by omega) ?_
   by_cases h2 : 2*x > 255
   ·refine ev_pos (by omega) ?_
    have : xt x=2*x ^^^ 283:=by unfold xt;rw [if_pos h2]
    rw [this] at hxt ⊢
    exact spec_l1Times.ev_l0 n _ _ _ hh (by omega) hox hxt
   ·refine ev_neg (by omega) ?_
    have : xt x=2*x:=by unfold xt;rw [if_neg h2]
    rw [this] at hxt ⊢
    exact spec_l1Times.ev_l0 n _ _ _ hh (by omega) hox hxt
  ·rw [if_neg h1]
   refine ev_neg (by omega) ?_
   by_cases h2 : 2*x > 255
   ·refine ev_pos (by omega) ?_
    have : xt x=2*x ^^^ 283:=by unfold xt;rw [if_pos h2]
    rw [this] at hxt ⊢
    exact spec_l1Times.ev_l0 n _ _ _ hh (by omega) ho hxt
   ·refine ev_neg (by omega) ?_
    have : xt x=2*x:=by unfold xt;rw [if_neg h2]
    rw [this] at hxt ⊢
    exact spec_l1Times.ev_l0 n _ _ _ hh (by omega) ho hxt
theorem spec_l1Times.ev {a b : Int} (ha : Byte a) (hb : Byte b) : Ev (fun k=>spec_l1Times.f k a b) (mul a b):=by
 obtain ⟨m,hm,rfl⟩:=ha.nat
 obtain ⟨n,hn,rfl⟩:=hb.nat
 unfold spec_l1Times.f
 rw [wrap_id (i:=(m : Int)) (by omega) (by omega),wrap_id (i:=(n : Int)) (by omega) (by omega)]
 have h:=spec_l1Times.ev_l0 8 0 m n hn (Nat.le_refl _) (by decide) hm
 exact ev_eq h (by unfold Gf.mul gm;simp)

theorem spec_l3Rows.ev_l2 (D : List ByteArray) (b s v : List Int) (hb : Bytes b) (f : Int) (hf : Byte f) (a : Nat) (ha : a < D.length) (hs : (txt D a).size=b.length) (hbl : b.length < 4611686018427387904) (hv : v=addV b (scale f (bytesOf (txt D a)))) (out : List ByteArray) (R : List (List Int)) (x14 x15 : Int) (x24 : List Int) (x25 x26 : Int) {Z : List ByteArray}
  (K : Ev (fun k=>spec_l3Rows.l1 k D out v R x14 x15 x24 x25 (wrap64 (x26+1))) Z) : ∀ (d j : Nat),j+d=b.length →
  Ev (fun k=>spec_l3Rows.l2 k D out (v.take j ++ b.drop j) (a : Int) f R x14 x15 x24 x25 x26 (b.length : Int) (j : Int)) Z
 | 0,j,hj=>by
  have hvl : v.length=b.length:=by rw [hv,addV_length,scale_length,bytesOf_length];omega
  refine Ev.step (fun k=>spec_l3Rows.l2.eq_2 _ _ _ _ _ _ _ _ _ _ _ _ _ k) ?_
  refine ev_neg (by omega) ?_
  rw [List.take_of_length_le (by omega),List.drop_of_length_le (by omega),List.append_nil]
  exact K
 | d+1,j,hj=>by
  have hvl : v.length=b.length:=by rw [hv,addV_length,scale_length,bytesOf_length];omega
  have hh:=half_length hvl (show j≤b.length by omega)
  refine Ev.step (fun k=>spec_l3Rows.l2.eq_2 _ _ _ _ _ _ _ _ _ _ _ _ _ k) ?_
  rw [half_get hvl (by omega)]
  simp only [rdOf_nat]
  refine ev_pos (by omega) (ev_pos (by omega) (ev_pos (by omega) (ev_pos (by omega) (ev_pos (by omega) (ev_pos (by omega) ?_)))))
  refine ev_bind (spec_l1Times.ev hf (bt_byte _ _)) ?_
  rw [xor_u8 (bytes_getD hb j) (Byte.mul hf _),inc (by omega),Int.toNat_natCast,bt_getD]
  have e : gx (b.getD j 0) (mul f ((bytesOf (txt D a)).getD j 0))=v.getD j 0:=by
   rw [hv,addV_getD (by rw [scale_length,bytesOf_length];omega) (by omega),scale_getD (by rw [bytesOf_length];omega)]
  rw [e,half_set hvl (by omega)]
  exact spec_l3Rows.ev_l2 D b s v hb f hf a ha hs hbl hv out R x14 x15 x24 x25 x26 K d (j+1) (by omega)
theorem spec_l3Rows.ev_l1 (D : List ByteArray) (hD : ∀ j,j < D.length→(txt D j).size=(txt D 0).size) (hs : (txt D 0).size < 140737488355328) (hl : D.length < 4611686018427387904) (r : List Int) (hr : Bytes r) (hrl : r.length=D.length) (out : List ByteArray) (ho : out.length < 8796093022208)
  (R : List (List Int)) (x14 x15 : Int) {Z : List ByteArray} (K : Ev (fun k=>spec_l3Rows.l0 k D (out ++ [strOfNums (mixTo r D (txt D 0).size D.length)]) R x14 (wrap64 (x15+1))) Z) : ∀ (d j : Nat),j+d=D.length →
  Ev (fun k=>spec_l3Rows.l1 k D out (mixTo r D (txt D 0).size j) R x14 x15 r (r.length : Int) (j : Int)) Z
 | 0,j,hj=>by
  have e : j=D.length:=by omega
  subst e
  refine Ev.step (fun k=>spec_l3Rows.l1.eq_2 _ _ _ _ _ _ _ _ _ k) ?_
  exact ev_neg (by omega) (ev_pos ho K)
 | d+1,j,hj=>by
  obtain ⟨h1,h2⟩:=mixTo_ok (n:=(txt D 0).size) hr hD j (by omega)
  have h3:=hD j (by omega)
  have ih:=spec_l3Rows.ev_l1 D hD hs hl r hr hrl out ho R x14 x15 K d (j+1) (by omega)
  refine Ev.step (fun k=>spec_l3Rows.l1.eq_2 _ _ _ _ _ _ _ _ _ k) ?_
  refine ev_pos (by omega) (ev_pos (by omega) (ev_pos (by omega) ?_))
  have:=spec_l3Rows.ev_l2 D (mixTo r D (txt D 0).size j) [] (mixTo r D (txt D 0).size (j+1)) h1 (rd r (j : Int)) (bytes_rd hr (by omega)) j (by omega) (by omega) (by omega) (by rw [rd_nat];rfl) out R x14 x15 r (r.length : Int) (j : Int) (by rw [inc (by omega)];exact ih) (mixTo r D (txt D 0).size j).length 0 (by omega)
  simpa using this
theorem spec_l3Rows.ev_l0 (D : List ByteArray) (hp : 0 < D.length) (hD : ∀ j,j < D.length→(txt D j).size=(txt D 0).size) (hs : (txt D 0).size < 140737488355328) (hl : D.length < 4611686018427387904) (R : List (List Int)) (hR : ∀ r ∈ R,Bytes r∧r.length=D.length) (hRl : R.length < 8796093022208) : ∀ (d i : Nat),i+d=R.length →
  Ev (fun k=>spec_l3Rows.l0 k D ((mixT R D).take i) R (R.length : Int) (i : Int)) (mixT R D)
 | 0,i,hi=>by
  have hz:=mixT_length R D
  refine Ev.step (fun k=>spec_l3Rows.l0.eq_2 _ _ _ _ _ k) ?_
  refine ev_neg (by omega) (ev_now ?_)
  rw [List.take_of_length_le (by omega)]
 | d+1,i,hi=>by
  have hz:=mixT_length R D
  have hlt : i < R.length:=by omega
  have hm:=hR _ (List.getElem_mem hlt)
  refine Ev.step (fun k=>spec_l3Rows.l0.eq_2 _ _ _ _ _ k) ?_
  simp only [rdOf_zero,Int.toNat_natCast]
  rw [rdSS R i hlt]
  refine ev_pos (by omega) (ev_pos (by omega) (ev_pos (by omega) (ev_pos (by omega) (ev_pos (by omega) (ev_pos (by omega) ?_)))))
  refine spec_l3Rows.ev_l1 D hD hs hl R[i] hm.1 hm.2 _ (by rw [List.length_take];omega) R _ _ ?_ D.length 0 (by omega)
  rw [inc (by omega)]
  have e : (mixT R D).take i ++ [strOfNums (mixTo R[i] D (txt D 0).size D.length)]=(mixT R D).take (i+1):=by
   rw [List.take_succ_eq_append_getElem (by omega)]
   simp [mixT]
  rw [e]
  exact spec_l3Rows.ev_l0 D hp hD hs hl R hR hRl d (i+1) (by omega)
theorem spec_l3Rows.ev {D : List ByteArray} (hp : 0 < D.length) (hD : ∀ j,j < D.length→(txt D j).size=(txt D 0).size) (hs : (txt D 0).size < 140737488355328) (hl : D.length < 4611686018427387904) {R : List (List Int)} (hR : ∀ r ∈ R,Bytes r∧r.length=D.length) (hRl : R.length < 8796093022208) : Ev (fun k=>spec_l3Rows.f k R D) (mixT R D):=by
 unfold spec_l3Rows.f
 exact spec_l3Rows.ev_l0 D hp hD hs hl R hR hRl R.length 0 (by omega)

theorem spec_l1Add.ev_l0 (v w : List Int) (hv : Bytes v) (hw : Bytes w) (hl : v.length=w.length) (hs : v.length < 140737488355328) : ∀ (n i : Nat) (o : List Int),i+n=v.length→o=(addV v w).take i →
  Ev (fun k=>spec_l1Add.l0 k v w o (v.length : Int) (i : Int)) (addV v w)
 | 0,i,o,hi,ho=>by
  refine Ev.step (fun k=>spec_l1Add.l0.eq_2 _ _ _ _ _ k) ?_
  refine ev_neg (by omega) (ev_now ?_)
  subst ho
  rw [List.take_of_length_le (by rw [addV_length];omega)]
 | n+1,i,o,hi,ho=>by
  have hz:=addV_length v w
  have hlen : o.length=i:=by rw [ho,List.length_take,hz];omega
  refine Ev.step (fun k=>spec_l1Add.l0.eq_2 _ _ _ _ _ k) ?_
  refine ev_pos (by omega) (ev_pos (by omega) (ev_pos (by omega) (ev_pos (by omega) (ev_pos (by omega) ?_))))
  rw [inc (by omega),xor_u8 (bytes_rd hv (by omega)) (bytes_rd hw (by omega)),rd_get (by omega),rd_get (by omega)]
  refine spec_l1Add.ev_l0 v w hv hw hl hs n (i+1) _ (by omega) ?_
  rw [List.take_succ_eq_append_getElem (by omega),← ho]
  simp [addV]
theorem spec_l1Add.ev {v w : List Int} (hv : Bytes v) (hw : Bytes w) (hl : v.length=w.length) (hs : v.length < 140737488355328) : Ev (fun k=>spec_l1Add.f k v w) (addV v w):=by
 unfold spec_l1Add.f
 exact spec_l1Add.ev_l0 v w hv hw hl hs v.length 0 [] (by omega) rfl

theorem spec_l1Scale.ev_l0 (a : Int) (ha : Byte a) (v : List Int) (hv : Bytes v) (hs : v.length < 140737488355328) : ∀ (n i : Nat) (o : List Int),i+n=v.length→o=(scale a v).take i →
  Ev (fun k=>spec_l1Scale.l0 k a o v (v.length : Int) (i : Int)) (scale a v)
 | 0,i,o,hi,ho=>by
  refine Ev.step (fun k=>spec_l1Scale.l0.eq_2 _ _ _ _ _ k) ?_
  refine ev_neg (by omega) (ev_now ?_)
  subst ho
  rw [List.take_of_length_le (by rw [scale_length];omega)]
 | n+1,i,o,hi,ho=>by
  have hz:=scale_length a v
  have hlen : o.length=i:=by rw [ho,List.length_take,hz];omega
  refine Ev.step (fun k=>spec_l1Scale.l0.eq_2 _ _ _ _ _ k) ?_
  refine ev_pos (by omega) (ev_pos (by omega) (ev_pos (by omega) ?_))
  refine ev_bind (spec_l1Times.ev ha (bytes_rd hv (by omega))) ?_
  refine ev_pos (by omega) ?_
  rw [inc (by omega),rd_get (by omega)]
  refine spec_l1Scale.ev_l0 a ha v hv hs n (i+1) _ (by omega) ?_
  rw [List.take_succ_eq_append_getElem (by omega),← ho]
  simp [scale]
theorem spec_l1Scale.ev {a : Int} (ha : Byte a) {v : List Int} (hv : Bytes v) (hs : v.length < 140737488355328) : Ev (fun k=>spec_l1Scale.f k a v) (scale a v):=by
 unfold spec_l1Scale.f
 exact spec_l1Scale.ev_l0 a ha v hv hs v.length 0 [] (by omega) rfl

theorem spec_l2Own.ev_l0 (l : List (List Int)) (hl : l.length≤1048576) (hr : ∀ r ∈ l,r.length≤1048576) : ∀ (d i : Nat) (o : List (List Int)),i+d=l.length→o=l.take i→Ev (fun k=>spec_l2Own.l0 k l (l.length : Int) (i : Int) o) l
 | 0,i,o,hi,ho=>by
  refine Ev.step (fun k=>spec_l2Own.l0.eq_2 _ _ _ _ k) ?_
  refine ev_neg (by omega) (ev_now ?_)
  rw [ho,List.take_of_length_le (by omega)]
 | d+1,i,o,hi,ho=>by
  have hol : o.length=i:=by rw [ho,List.length_take];omega
  have hrl : (l.getD i []).length≤1048576:=by
   rw [List.getD_eq_getElem?_getD,List.getElem?_eq_getElem (show i < l.length by omega)]
   exact hr _ (List.getElem_mem _)
  refine Ev.step (fun k=>spec_l2Own.l0.eq_2 _ _ _ _ k) ?_
  simp only [Option.bind_some]
  refine ev_pos (by omega) (ev_pos (by omega) (ev_pos (by omega) (ev_pos (show ([] : List Int).length+(l.getD i []).length < 140737488355328 by simp only [List.length_nil];omega) (ev_pos (by omega) ?_))))
  rw [inc (by omega)]
  refine spec_l2Own.ev_l0 l hl hr d (i+1) _ (by omega) ?_
  rw [List.take_succ_eq_append_getElem (show i < l.length by omega),← ho,show l[i]'(by omega)=l.getD i [] by rw [List.getD_eq_getElem?_getD,List.getElem?_eq_getElem (show i < l.length by omega)];rfl]
  rfl
theorem spec_l2Own.ev (l : List (List Int)) (hl : l.length≤1048576) (hr : ∀ r ∈ l,r.length≤1048576) : Ev (fun k=>spec_l2Own.f k l) l:=by
 unfold spec_l2Own.f
 exact spec_l2Own.ev_l0 l hl hr l.length 0 [] (by omega) rfl

theorem spec_l1Power.ev_l0 (a : Int) (ha : Byte a) : ∀ (n m : Nat),n < 4611686018427387904→Ev (fun k=>spec_l1Power.l0 k a (n : Int) (pow a m)) (pow a (m+n))
 | 0,m,_=>by
  refine Ev.step (fun k=>spec_l1Power.l0.eq_2 _ _ _ k) ?_
  exact ev_neg (by omega) (ev_now rfl)
 | n+1,m,hn=>by
  refine Ev.step (fun k=>spec_l1Power.l0.eq_2 _ _ _ k) ?_
  refine ev_pos (by omega) ?_
  refine ev_bind (spec_l1Times.ev (Byte.pow ha m) ha) ?_
  have e : wrap64 (((n+1 : Nat) : Int) - 1)=(n : Int):=by unfold wrap64;omega
  rw [e,← pow_succ]
  refine ev_eq (spec_l1Power.ev_l0 a ha n (m+1) (by omega)) ?_
  rw [Nat.add_right_comm,Nat.add_assoc]
theorem spec_l1Power.ev {a : Int} (ha : Byte a) (n : Nat) (hn : n < 4611686018427387904) : Ev (fun k=>spec_l1Power.f k a (n : Int)) (pow a n):=by
 unfold spec_l1Power.f
 have:=spec_l1Power.ev_l0 a ha n 0 hn
 rw [pow_zero,Nat.zero_add] at this
 exact this

theorem spec_l1Inverse.ev {a : Int} (ha : Byte a) : Ev (fun k=>spec_l1Inverse.f k a) (inv a):=by
 unfold spec_l1Inverse.f
 by_cases h : a=0
 ·subst h
  exact ev_pos rfl (ev_now inv_zero.symm)
 ·exact ev_neg h (ev_bind (spec_l1Power.ev ha 254 (by decide)) (ev_now (inv_pow a).symm))

theorem spec_l2Blank.ev_l0 (n m : Nat) (hn : n≤1048576) (hm : m≤1048576) : ∀ (d i : Nat),i+d=n→Ev (fun k=>spec_l2Blank.l0 k (n : Int) (m : Int) (i : Int) (blankM i m)) (blankM n m)
 | 0,i,hi=>by
  obtain rfl : i=n:=by omega
  refine Ev.step (fun k=>spec_l2Blank.l0.eq_2 _ _ _ _ k) ?_
  exact ev_neg (by omega) (ev_now rfl)
 | d+1,i,hi=>by
  have ih:=spec_l2Blank.ev_l0 n m hn hm d (i+1) (by omega)
  refine Ev.step (fun k=>spec_l2Blank.l0.eq_2 _ _ _ _ k) ?_
  refine ev_pos (by omega) (ev_pos (by omega) (ev_pos (by omega) (ev_pos (by simp [blankM];omega) ?_)))
  rw [inc (by omega),Int.toNat_natCast]
  have e : blankM i m ++ [List.replicate m 0]=blankM (i+1) m:=by
   unfold blankM;rw [List.replicate_succ']
  rw [e]
  exact ih
theorem spec_l2Blank.ev (n m : Nat) (hn : n≤1048576) (hm : m≤1048576) : Ev (fun k=>spec_l2Blank.f k (n : Int) (m : Int)) (blankM n m):=by
 unfold spec_l2Blank.f
 exact spec_l2Blank.ev_l0 n m hn hm n 0 (by omega)

def idPart (n i : Nat) : List (List Int):=(List.range n).map fun j=>if j < i then (List.replicate n 0).set j 1 else List.replicate n 0
theorem idPart_length (n i : Nat) : (idPart n i).length=n:=by simp [idPart]
theorem idPart_zero (n : Nat) : idPart n 0=blankM n n:=by
 apply List.ext_getElem
 ·simp [idPart,blankM]
 ·intro j h1 h2;simp [idPart,blankM]
theorem idPart_all (n : Nat) : idPart n n=idM n:=by
 apply List.ext_getElem
 ·simp [idPart,idM]
 ·intro j h1 h2
  have : j < n:=by simpa [idPart] using h1
  simp [idPart,idM,this]
theorem idPart_succ (n i : Nat) (hi : i < n) : (idPart n i).set i ((List.replicate n 0).set i 1)=idPart n (i+1):=by
 apply List.ext_getElem
 ·simp [idPart]
 ·intro j h1 h2
  rw [List.getElem_set]
  by_cases e : i=j
  ·subst e
   simp [idPart]
  ·rw [if_neg e]
   simp only [idPart,List.getElem_map,List.getElem_range]
   by_cases h : j < i
   ·rw [if_pos h,if_pos (by omega)]
   ·rw [if_neg h,if_neg (by omega)]
theorem spec_l2Identity.ev_l0 (n : Nat) (hn : n≤1048576) : ∀ (d i : Nat),i+d=n→Ev (fun k=>spec_l2Identity.l0 k (n : Int) (i : Int) (idPart n i)) (idM n)
 | 0,i,hi=>by
  obtain rfl : i=n:=by omega
  refine Ev.step (fun k=>spec_l2Identity.l0.eq_2 _ _ _ k) ?_
  exact ev_neg (by omega) (ev_now (idPart_all i))
 | d+1,i,hi=>by
  have hl:=idPart_length n i
  have hg : rd_L1 (idPart n i) (i : Int)=List.replicate n 0:=by
   rw [rdSS _ i (by omega)]
   simp [idPart]
  have ih:=spec_l2Identity.ev_l0 n hn d (i+1) (by omega)
  refine Ev.step (fun k=>spec_l2Identity.l0.eq_2 _ _ _ k) ?_
  rw [hg]
  refine ev_pos (by omega) (ev_pos (by omega) (ev_pos (by omega) (ev_pos (by simp;omega) ?_)))
  rw [inc (by omega),Int.toNat_natCast,idPart_succ n i (by omega)]
  exact ih
theorem spec_l2Identity.ev (n : Nat) (hn : n≤1048576) : Ev (fun k=>spec_l2Identity.f k (n : Int)) (idM n):=by
 unfold spec_l2Identity.f
 refine ev_bind (spec_l2Blank.ev n n hn hn) ?_
 have e : ((blankM n n).length : Int)=(n : Int):=by simp [blankM]
 rw [e,← idPart_zero]
 exact spec_l2Identity.ev_l0 n hn n 0 (by omega)

theorem spec_l2Inverse.ev {l : List (List Int)} (hs : sqN l=true) : spec_l2Inverse.f l=some ((redP l (idM l.length) l.length).1.map Prod.snd,decide ((redP l (idM l.length) l.length).2=l.length)):=by
 unfold spec_l2Inverse.f
 rw [if_pos hs]
theorem invM_yes {l : List (List Int)} (h : (redP l (idM l.length) l.length).2=l.length) : invM l=((redP l (idM l.length) l.length).1.map Prod.snd,true):=by
 unfold invM
 rw [if_neg (by omega)]
theorem invM_no {l : List (List Int)} (h : ¬ (redP l (idM l.length) l.length).2=l.length) : invM l=([],false):=by
 unfold invM
 have:=red_rank_le l (idM l.length) l.length
 rw [if_pos (by omega)]
theorem invM_ok {l : List (List Int)} (h : sqN l=true) : ((invM l).2=true→(invM l).1.length=l.length)∧(∀ r ∈ (invM l).1,okI l.length r)∧(invM l).1.length≤l.length:=by
 obtain ⟨h1,h2,h3⟩:=sqN_iff.1 h
 by_cases e : (redP l (idM l.length) l.length).2=l.length
 ·rw [invM_yes e]
  have hl : ((redP l (idM l.length) l.length).1.map Prod.snd).length=l.length:=by rw [List.length_map,redP_length _ _ _ (by rw [KitN.idM_length])]
  exact ⟨fun _=>hl,snd_all (redP_ok (n:=l.length) h3 (idM_ok l.length)),by show ((redP l (idM l.length) l.length).1.map Prod.snd).length≤_;omega⟩
 ·rw [invM_no e]
  exact ⟨fun z=>(by cases z),fun r hr=>(by cases hr),Nat.zero_le _⟩

theorem spec_l2Part.ev_l1 (m : List (List Int)) (c : List Int) (hg : goodM m=true) (hc : c.length≤1048576) (hcn : ∀ j,j < c.length→0≤rd c (j : Int)∧rd c (j : Int) < ((m.getD 0 []).length : Int)) (r : List Int) (i a : Nat) (ha : a < m.length) (out : List (List Int)) (ho : out.length < 5864062014805) {R : List (List Int)}
  (K : Ev (fun k=>spec_l2Part.l0 k c r (r.length : Int) (wrap64 ((i : Int)+1)) m (out ++ [partRow m c a])) R) : ∀ (d j : Nat) (o : List Int),j+d=c.length→o=(partRow m c a).take j →
  Ev (fun k=>spec_l2Part.l1 k c (a : Int) o r (r.length : Int) (i : Int) c (c.length : Int) (j : Int) m out) R
 | 0,j,o,hj,hoj=>by
  refine Ev.step (fun k=>spec_l2Part.l1.eq_2 _ _ _ _ _ _ _ _ _ _ _ k) ?_
  refine ev_neg (by omega) (ev_pos ho ?_)
  rw [hoj,List.take_of_length_le (by rw [partRow_length];omega)]
  exact K
 | d+1,j,o,hj,hoj=>by
  have hf:=goodM_iff hg
  have e:=hf.2.2 a ha
  have h2:=hcn j (by omega)
  have hol : o.length=j:=by rw [hoj,List.length_take,partRow_length];omega
  refine Ev.step (fun k=>spec_l2Part.l1.eq_2 _ _ _ _ _ _ _ _ _ _ _ k) ?_
  simp only [rdSS0,Int.toNat_natCast]
  refine ev_pos (by omega) (ev_pos (by omega) (ev_pos (by omega) (ev_pos (by omega) (ev_pos (by omega) (ev_pos h2.1 (ev_pos (by omega) (ev_pos (by omega) ?_)))))))
  rw [inc (by omega)]
  exact spec_l2Part.ev_l1 m c hg hc hcn r i a ha out ho K d (j+1) _ (by omega) (by rw [partRow_succ m c a j (by omega),← hoj])
theorem spec_l2Part.ev_l0 (m : List (List Int)) (c r : List Int) (hg : goodM m=true) (hc : c.length≤1048576) (hr : r.length≤1048576) (hcn : ∀ j,j < c.length→0≤rd c (j : Int)∧rd c (j : Int) < ((m.getD 0 []).length : Int)) (hrn : ∀ j,j < r.length→0≤rd r (j : Int)∧rd r (j : Int) < (m.length : Int)) : ∀ (d i : Nat) (out : List (List Int)),i+d=r.length→out=(partM m r c).take i →
  Ev (fun k=>spec_l2Part.l0 k c r (r.length : Int) (i : Int) m out) (partM m r c)
 | 0,i,out,hi,ho=>by
  refine Ev.step (fun k=>spec_l2Part.l0.eq_2 _ _ _ _ _ _ k) ?_
  refine ev_neg (by omega) (ev_now ?_)
  rw [ho,List.take_of_length_le (by rw [partM_length];omega)]
 | d+1,i,out,hi,ho=>by
  have h2:=hrn i (by omega)
  have hol : out.length=i:=by rw [ho,List.length_take,partM_length];omega
  obtain ⟨a,ha⟩:=Int.eq_ofNat_of_zero_le h2.1
  refine Ev.step (fun k=>spec_l2Part.l0.eq_2 _ _ _ _ _ _ k) ?_
  refine ev_pos (by omega) (ev_pos (by omega) (ev_pos (by omega) ?_))
  have ih:=spec_l2Part.ev_l0 m c r hg hc hr hcn hrn d (i+1) (out ++ [partRow m c a]) (by omega) (by rw [partM_succ m r c i (by omega),← ho,ha,Int.toNat_natCast])
  rw [ha]
  exact spec_l2Part.ev_l1 m c hg hc hcn r i a (by omega) out (by omega) (by rw [inc (by omega)];exact ih) c.length 0 [] (by omega) rfl
theorem spec_l2Part.ev (m : List (List Int)) (r c : List Int) (hg : goodM m=true) (hc : c.length≤1048576) (hr : r.length≤1048576) (hcn : ∀ j,j < c.length→0≤rd c (j : Int)∧rd c (j : Int) < ((m.getD 0 []).length : Int)) (hrn : ∀ j,j < r.length→0≤rd r (j : Int)∧rd r (j : Int) < (m.length : Int)) : Ev (fun k=>spec_l2Part.f k m r c) (partM m r c):=by
 unfold spec_l2Part.f
 exact spec_l2Part.ev_l0 m c r hg hc hr hcn hrn r.length 0 [] (by omega) rfl

theorem spec_l2Rank.ev {l : List (List Int)} (h : 1≤l.length) (hs : sqM l=true) : spec_l2Rank.f l=some (((rowI.red l (l.getD 0 []).length).2 : Nat) : Int):=by
 unfold spec_l2Rank.f
 rw [if_pos (by rw [hs,decide_eq_true h];rfl)]

theorem spec_GoodLocal.ev (g e m : Int) : spec_GoodLocal.f g e m=some (decide (GoodLocal g e m)):=by
 unfold spec_GoodLocal.f
 simp only [spec_l1In.ev,Option.bind_some,decide_eq_true_eq]
 by_cases h1 : 1≤g∧g≤4
 ·by_cases h2 : 1≤e∧e≤4
  ·have em:=(small_mul ⟨h1,h2⟩).1
   rw [em]
   by_cases h3 : g*e≤8 <;> simp [h1,h2,h3]
  ·simp [h1,h2]
 ·simp [h1]

theorem spec_l4Data.ev {g e m : Int} (h : GoodLocal g e m) : spec_l4Data.f g e m=some (g*e):=by
 unfold spec_l4Data.f
 rw [(small_mul h.1).1]

theorem spec_l4Many.ev {g e m : Int} (h : GoodLocal g e m) : spec_l4Many.f g e m=some (g*e+g+m):=by
 have hm:=small_mul h.1
 unfold spec_l4Many.f
 simp only [spec_l4Data.ev h,Option.bind_some]
 have e1 : wrap64 (wrap64 (g*e+g)+m)=g*e+g+m:=by unfold wrap64;omega
 rw [e1]

theorem spec_l2Cauchy.ev_l1 (n m : Nat) (hn : n≤1048576) (hm : m≤1048576) (i : Nat) (hi : i < n) {R : List (List Int)}
  (K : Ev (fun k=>spec_l2Cauchy.l0 k (m : Int) (n : Int) (wrap64 ((i : Int)+1)) (filPart n m (cauAt m) (i+1) 0)) R) : ∀ (d j : Nat),j+d=m →
  Ev (fun k=>spec_l2Cauchy.l1 k (m : Int) (i : Int) (n : Int) (i : Int) (m : Int) (j : Int) (filPart n m (cauAt m) i j)) R
 | 0,j,hj=>by
  refine Ev.step (fun k=>spec_l2Cauchy.l1.eq_2 _ _ _ _ _ _ _ k) ?_
  refine ev_neg (by omega) ?_
  rw [show j=m by omega,filPart_next]
  exact K
 | d+1,j,hj=>by
  have hl:=filPart_length n m (cauAt m) i j
  have hr:=filPart_row (f:=cauAt m) (m:=m) (i:=i) (j:=j) hi
  refine Ev.step (fun k=>spec_l2Cauchy.l1.eq_2 _ _ _ _ _ _ _ k) ?_
  simp only [rdSS0,Int.toNat_natCast]
  refine ev_pos (by omega) (ev_pos (by omega) (ev_pos (by omega) ?_))
  refine ev_bind (spec_l1Inverse.ev (mod_byte _)) ?_
  refine ev_pos (by omega) (ev_pos (by omega) ?_)
  rw [inc (by omega),show inv ((Go.bits .xor .i64 (wrap64 ((m : Int)+(i : Int))) (j : Int)) % 256)=cauAt m i j from rfl,filPart_set (cauAt m) hi]
  exact spec_l2Cauchy.ev_l1 n m hn hm i hi K d (j+1) (by omega)
theorem spec_l2Cauchy.ev_l0 (n m : Nat) (hn : n≤1048576) (hm : m≤1048576) : ∀ (d i : Nat),i+d=n→Ev (fun k=>spec_l2Cauchy.l0 k (m : Int) (n : Int) (i : Int) (filPart n m (cauAt m) i 0)) (tab n m (cauAt m))
 | 0,i,hi=>by
  refine Ev.step (fun k=>spec_l2Cauchy.l0.eq_2 _ _ _ _ k) ?_
  refine ev_neg (by omega) (ev_now ?_)
  rw [show i=n by omega,filPart_all]
 | d+1,i,hi=>by
  have hl:=filPart_length n m (cauAt m) i 0
  have hr:=filPart_row (f:=cauAt m) (m:=m) (i:=i) (j:=0) (show i < n by omega)
  have ih:=spec_l2Cauchy.ev_l0 n m hn hm d (i+1) (by omega)
  refine Ev.step (fun k=>spec_l2Cauchy.l0.eq_2 _ _ _ _ k) ?_
  simp only [rdSS0,Int.toNat_natCast]
  refine ev_pos (by omega) (ev_pos (by omega) (ev_pos (by omega) ?_))
  rw [hr]
  exact spec_l2Cauchy.ev_l1 n m hn hm i (by omega) (by rw [inc (by omega)];exact ih) m 0 (by omega)
theorem spec_l2Cauchy.ev (n m : Nat) (hn : n≤1048576) (hm : m≤1048576) : Ev (fun k=>spec_l2Cauchy.f k (n : Int) (m : Int)) (tab n m (cauAt m)):=by
 unfold spec_l2Cauchy.f
 refine ev_bind (spec_l2Blank.ev n m (by omega) (by omega)) ?_
 have e : ((blankM n m).length : Int)=(n : Int):=by simp [blankM]
 rw [e,filPart_zero n m (cauAt m)]
 exact spec_l2Cauchy.ev_l0 n m hn hm n 0 (by omega)

theorem spec_l4Matrix.ev_l1 (g e m n i : Nat) (he : 1≤e∧e≤4) (hg : g≤4) (hi : i < g) (hn : n=g*e) (hn8 : n≤8) (R : List (List Int)) (hR : R.length≤100) {Z : List (List Int)}
  (K : Ev (fun k=>spec_l4Matrix.l0 k (n : Int) (wrap64 ((i : Int)+1)) (g : Int) (e : Int) (m : Int) (R ++ [(List.range n).map (grpAt e i)])) Z) : ∀ (d t : Nat),t+d=e →
  Ev (fun k=>spec_l4Matrix.l1 k (n : Int) (i : Int) (grpPart n e i t) (t : Int) (g : Int) (e : Int) (m : Int) R) Z
 | 0,t,ht=>by
  refine Ev.step (fun k=>spec_l4Matrix.l1.eq_2 _ _ _ _ _ _ _ _ k) ?_
  refine ev_neg (by omega) (ev_pos (by omega) ?_)
  rw [show t=e by omega,grpPart_all n e i (by omega)]
  exact K
 | d+1,t,ht=>by
  have hl:=grpPart_length n e i t
  have hie : i*e+e≤n:=by rw [hn,← Nat.succ_mul];exact Nat.mul_le_mul_right _ hi
  have e1 : (i : Int)*(e : Int)=((i*e : Nat) : Int):=by rw [Int.natCast_mul]
  refine Ev.step (fun k=>spec_l4Matrix.l1.eq_2 _ _ _ _ _ _ _ _ k) ?_
  rw [e1,wrap_id (i:=((i*e : Nat) : Int)) (by omega) (by omega),show ((i*e : Nat) : Int)+(t : Int)=((i*e+t : Nat) : Int) from (Int.natCast_add _ _).symm,wrap_id (i:=((i*e+t : Nat) : Int)) (by omega) (by omega)]
  clear e1
  refine ev_pos (by omega) (ev_pos (by omega) (ev_pos (by omega) ?_))
  rw [inc (by omega),Int.toNat_natCast,grpPart_set]
  exact spec_l4Matrix.ev_l1 g e m n i he hg hi hn hn8 R hR K d (t+1) (by omega)
theorem spec_l4Matrix.ev_l0 (g e m n : Nat) (he : 1≤e∧e≤4) (hg : g≤4) (hm : m≤4) (hn : n=g*e) (hn8 : n≤8) : ∀ (d i : Nat),i+d=g →
  Ev (fun k=>spec_l4Matrix.l0 k (n : Int) (i : Int) (g : Int) (e : Int) (m : Int) (idM n ++ tab i n (grpAt e))) (localM g e m)
 | 0,i,hi=>by
  refine Ev.step (fun k=>spec_l4Matrix.l0.eq_2 _ _ _ _ _ _ k) ?_
  refine ev_neg (by omega) (ev_bind (spec_l2Cauchy.ev m n (by omega) (by omega)) (ev_pos (by rw [List.length_append,idM_length,tab_length,tab_length];omega) (ev_now ?_)))
  rw [show i=g by omega,hn];rfl
 | d+1,i,hi=>by
  have ih:=spec_l4Matrix.ev_l0 g e m n he hg hm hn hn8 d (i+1) (by omega)
  refine Ev.step (fun k=>spec_l4Matrix.l0.eq_2 _ _ _ _ _ _ k) ?_
  refine ev_pos (by omega) (ev_pos (by omega) (ev_pos (by omega) ?_))
  rw [Int.toNat_natCast,grpPart_zero n e i]
  refine spec_l4Matrix.ev_l1 g e m n i he hg (by omega) hn hn8 _ (by rw [List.length_append,idM_length,tab_length];omega) ?_ e 0 (by omega)
  rw [inc (by omega),List.append_assoc]
  have e1 : tab i n (grpAt e) ++ [(List.range n).map (grpAt e i)]=tab (i+1) n (grpAt e):=by
   unfold tab
   rw [List.range_succ,List.map_append];rfl
  rw [e1]
  exact ih
theorem spec_l4Matrix.ev {g e m : Nat} (h : GoodLocal (g : Int) (e : Int) (m : Int)) : Ev (fun k=>spec_l4Matrix.f k (g : Int) (e : Int) (m : Int)) (localM g e m):=by
 unfold spec_l4Matrix.f
 have hm:=(small_mul h.1).1
 obtain ⟨⟨⟨h1,h2⟩,h3,h4⟩,h5,h6,h7⟩:=h
 have e1 : (g : Int)*(e : Int)=((g*e : Nat) : Int):=by rw [Int.natCast_mul]
 rw [e1] at h5
 unfold spec_l4Data.f
 simp only [Option.bind_some]
 rw [hm,e1]
 refine ev_bind (spec_l2Identity.ev (g*e) (by omega)) ?_
 have h0:=spec_l4Matrix.ev_l0 g e m (g*e) (by omega) (by omega) (by omega) rfl (by omega) g 0 (by omega)
 have e2 : tab 0 (g*e) (grpAt e)=[]:=rfl
 rw [e2,List.append_nil] at h0
 exact h0

/-- One shard more, if its row is independent of the rows so far. -/
def pickS (M : List (List Int)) (c : Nat) (u : List (S84)) (x : S84) : List (S84):=if (rowI.red (someM M (numsOf (u ++ [x]))) c).2=u.length+1 then u ++ [x] else u
def shFine (n s : Nat) (x : S84) : Prop:=(0≤x.f0∧x.f0 < (n : Int))∧x.f1.size=s∧s≤40
theorem fine_in {n s : Nat} {u : List (S84)} (h : ∀ x ∈ u,shFine n s x) : ∀ j,j < u.length→0≤rd (numsOf u) (j : Int)∧rd (numsOf u) (j : Int) < (n : Int):=fun j hj=>by
 rw [nums_rd hj]
 exact (h _ (List.getElem_mem hj)).1
theorem fine_txt {n s : Nat} {u : List (S84)} (h : ∀ x ∈ u,shFine n s x) : ∀ j,j < u.length→(txt (txtsOf u) j).size=(txt (txtsOf u) 0).size∧(txt (txtsOf u) j).size≤40:=fun j hj=>by
 have h1:=(h _ (List.getElem_mem hj)).2
 have h2:=(h _ (List.getElem_mem (show 0 < u.length by omega))).2
 rw [txts_at hj,txts_at (l:=u) (i:=0) (by omega)]
 omega
theorem fine_of {l : List (S84)} {n : Nat} (h : sdOk l n=true) : ∃ s,∀ x ∈ l,shFine n s x:=by
 obtain ⟨h1,h2,_⟩:=sdOk_at h
 refine ⟨(txt (txtsOf l) 0).size,fun x hx=>?_⟩
 obtain ⟨j,hj,rfl⟩:=List.getElem_of_mem hx
 have a1:=h1 j hj
 have a2:=h2 j hj
 rw [nums_rd hj] at a1
 rw [txts_at hj] at a2
 exact ⟨a1,a2.1,by omega⟩
theorem fine_snoc {n s : Nat} {u : List (S84)} {x : S84} (h : ∀ x ∈ u,shFine n s x) (hx : shFine n s x) : ∀ y ∈ u ++ [x],shFine n s y:=fun y hy=>by
 rcases List.mem_append.1 hy with h1 | h1
 ·exact h y h1
 ·rw [List.mem_singleton.1 h1];exact hx
theorem pick_fine {M : List (List Int)} {c n s : Nat} {u : List (S84)} {x : S84} (hl : u.length≤c) (h : ∀ x ∈ u,shFine n s x) (hx : shFine n s x) : (pickS M c u x).length≤c∧∀ y ∈ pickS M c u x,shFine n s y:=by
 unfold pickS
 split
 ·rename_i e
  have:=(RowK.red_rank (O:=rowI) (someM M (numsOf (u ++ [x]))) c).1
  exact ⟨by rw [List.length_append,List.length_singleton];omega,fine_snoc h hx⟩
 ·exact ⟨hl,h⟩
theorem pick_full {M : List (List Int)} {c : Nat} {u : List (S84)} (x : S84) (h : u.length=c) : pickS M c u x=u:=if_neg fun z=>by
 have:=(RowK.red_rank (O:=rowI) (someM M (numsOf (u ++ [x]))) c).1
 omega
theorem some_sqF {M : List (List Int)} {c s : Nat} {u : List (S84)} (hM : ∀ r ∈ M,Bytes r∧r.length=c) (hc : c≤1000) (h : ∀ x ∈ u,shFine M.length s x) (h1 : 1≤u.length) (h2 : u.length≤1000) : sqM (someM M (numsOf u))=true∧(someM M (numsOf u)).length=u.length∧((someM M (numsOf u)).getD 0 []).length=c:=by
 have hl : (someM M (numsOf u)).length=u.length:=by rw [someM_length,numsOf_length]
 have hok:=someM_ok hM (fun j hj=>fine_in h j (by rw [numsOf_length] at hj;exact hj))
 have h0 : ((someM M (numsOf u)).getD 0 []).length=c:=(RowK.at_all (O:=rowI) hok (i:=0) (by omega)).2
 exact ⟨sqM_iff.2 ⟨by omega,by omega,fun r hr=>by rw [h0];exact hok r hr⟩,hl,h0⟩
/-- What is told, once the shards are chosen. -/
def dlFin (M : List (List Int)) (c : Nat) (u : List (S84)) : List ByteArray × Bool:=if u.length < c then ([],false) else decM M u
def dlVal (g e m : Int) (l : List (S84)) : List ByteArray × Bool:=if GoodLocal g e m∧sdOk l (g*e+g+m).toNat=true then dlFin (localM g.toNat e.toNat m.toNat) (g*e).toNat (l.foldl (pickS (localM g.toNat e.toNat m.toNat) (g*e).toNat) []) else ([],false)
theorem spec_DecodeLocal.ev_l0 {a b c : Nat} (h : GoodLocal (a : Int) (b : Int) (c : Int)) (h1 : 1≤a*b) (h8 : a*b≤8) (h16 : a*b+a+c≤16) (l : List (S84)) (s : Nat) (hl : l.length≤16) (hf : ∀ x ∈ l,shFine (localM a b c).length s x) : ∀ (d i : Nat) (u : List (S84)),i+d=l.length→u.length≤a*b→(∀ x ∈ u,shFine (localM a b c).length s x) →
  Ev (fun k=>spec_DecodeLocal.l0 k ((a*b : Nat) : Int) (numsOf u) (txtsOf u) l (l.length : Int) (i : Int) (a : Int) (b : Int) (c : Int)) (dlFin (localM a b c) (a*b) ((l.drop i).foldl (pickS (localM a b c) (a*b)) u))
 | 0,i,u,hi,hu,hfu=>by
  have hnl:=numsOf_length u
  have hM:=localM_rows a b c
  have hML:=localM_length a b c
  refine Ev.step (fun k=>spec_DecodeLocal.l0.eq_2 _ _ _ _ _ _ _ _ _ k) (ev_neg (by omega) ?_)
  rw [List.drop_eq_nil_of_le (by omega)]
  show Ev _ (dlFin (localM a b c) (a*b) u)
  unfold dlFin
  by_cases z : u.length < a*b
  ·rw [if_pos z]
   exact ev_pos (by omega) (ev_now rfl)
  ·rw [if_neg z]
   have hul : u.length=a*b:=by omega
   refine ev_neg (by omega) (ev_bind (spec_l4Matrix.ev h) (ev_bind (spec_l3All.ev (a*b) (by omega)) ?_))
   have hg:=goodM_of hM (by omega) (by omega) h1 (by omega)
   have hlen0 : ((localM a b c).getD 0 []).length=a*b:=(RowK.at_all (O:=rowI) (P:=okI (a*b)) hM (i:=0) (by omega)).2
   have hin2 : ∀ j,j < (numsOf u).length→0≤rd (numsOf u) (j : Int)∧rd (numsOf u) (j : Int) < ((localM a b c).length : Int):=fun j hj=>fine_in hfu j (by omega)
   have hts:=fine_txt hfu
   refine ev_bind (spec_l2Part.ev (localM a b c) (numsOf u) (allI (a*b)) hg (by rw [allI_length];omega) (by omega) (fun j hj=>by rw [allI_length] at hj;rw [allI_rd hj,hlen0];omega) hin2) ?_
   rw [partM_some hM hin2]
   obtain ⟨s1,s2⟩:=dec_sq hM h1 (by omega) hul (fun j hj=>fine_in hfu j hj)
   rw [spec_l2Inverse.ev s1]
   simp only [Option.bind_some]
   unfold decM
   obtain ⟨o1,o2,o3⟩:=invM_ok s1
   by_cases z : (redP (someM (localM a b c) (numsOf u)) (idM (someM (localM a b c) (numsOf u)).length) (someM (localM a b c) (numsOf u)).length).2=(someM (localM a b c) (numsOf u)).length
   ·rw [invM_yes z] at o1 o2 o3 ⊢
    rw [if_pos rfl]
    refine ev_pos (decide_eq_true z) (ev_bind ?_ (ev_now rfl))
    exact spec_l3Rows.ev (by rw [txtsOf_length];omega) (fun j hj=>(hts j (by rw [txtsOf_length] at hj;exact hj)).1) (by have:=(hts 0 (by omega)).2;omega) (by rw [txtsOf_length];omega) (fun r hr=>⟨(o2 r hr).1,by rw [(o2 r hr).2,s2,txtsOf_length,hul]⟩) (Nat.lt_of_le_of_lt (Nat.le_trans o3 (Nat.le_of_eq s2)) (by omega))
   ·rw [invM_no z,if_neg (by simp)]
    exact ev_neg (by simpa using z) (ev_now rfl)
 | d+1,i,u,hi,hu,hfu=>by
  have hil : i < l.length:=by omega
  have hnl:=numsOf_length u
  have htl:=txtsOf_length u
  have hM:=localM_rows a b c
  have hML:=localM_length a b c
  have hx:=hf _ (List.getElem_mem hil)
  have e : ([] : List Int) ++ numsOf u ++ [(l[i]).f0]=numsOf (u ++ [l[i]]):=by simp [numsOf]
  have e2 : txtsOf u ++ [(l[i]).f1]=txtsOf (u ++ [l[i]]):=by simp [txtsOf]
  have hfx:=fine_snoc hfu hx
  have hnx : (numsOf (u ++ [l[i]])).length=u.length+1:=by rw [numsOf_length,List.length_append,List.length_singleton]
  obtain ⟨p1,p2⟩:=pick_fine (M:=localM a b c) hu hfu hx
  have ih:=spec_DecodeLocal.ev_l0 h h1 h8 h16 l s hl hf d (i+1) _ (by omega) p1 p2
  rw [List.drop_eq_getElem_cons hil,List.foldl_cons]
  refine Ev.step (fun k=>spec_DecodeLocal.l0.eq_2 _ _ _ _ _ _ _ _ _ k) ?_
  rw [rdSd hil]
  simp only [Option.bind_some]
  refine ev_pos (by omega) (ev_pos (by omega) (ev_pos (by omega) (ev_pos (by rw [List.length_nil];omega) (ev_pos (by rw [List.nil_append,List.length_singleton];omega) ?_))))
  rw [e,e2,inc (by omega)]
  by_cases z : u.length < a*b
  ·refine ev_pos (by omega) (ev_bind (spec_l4Matrix.ev h) (ev_bind (spec_l3All.ev (a*b) (by omega)) ?_))
   have hg:=goodM_of hM (by omega) (by omega) h1 (by omega)
   have hlen0 : ((localM a b c).getD 0 []).length=a*b:=(RowK.at_all (O:=rowI) (P:=okI (a*b)) hM (i:=0) (by omega)).2
   have hin2 : ∀ j,j < (numsOf (u ++ [l[i]])).length→0≤rd (numsOf (u ++ [l[i]])) (j : Int)∧rd (numsOf (u ++ [l[i]])) (j : Int) < ((localM a b c).length : Int):=fun j hj=>fine_in hfx j (by rw [numsOf_length] at hj;exact hj)
   refine ev_bind (spec_l2Part.ev (localM a b c) (numsOf (u ++ [l[i]])) (allI (a*b)) hg (by rw [allI_length];omega) (by omega) (fun j hj=>by rw [allI_length] at hj;rw [allI_rd hj,hlen0];omega) hin2) ?_
   rw [partM_some hM hin2]
   obtain ⟨s1,s2,s3⟩:=some_sqF hM (by omega) hfx (by simp) (by rw [List.length_append,List.length_singleton];omega)
   rw [spec_l2Rank.ev (by rw [s2];simp) s1,s3]
   simp only [Option.bind_some]
   unfold pickS at ih ⊢
   by_cases y : (rowI.red (someM (localM a b c) (numsOf (u ++ [l[i]]))) (a*b)).2=u.length+1
   ·rw [if_pos y] at ih ⊢
    exact ev_pos (by omega) (ev_pos (by rw [List.length_singleton];omega) ih)
   ·rw [if_neg y] at ih ⊢
    exact ev_neg (by omega) ih
  ·rw [pick_full _ (show u.length=a*b by omega)] at ih ⊢
   exact ev_neg (by omega) ih
theorem spec_DecodeLocal.ev (g e m : Int) (l : List (S84)) (hl : l.length≤1048576) (hw : ∀ x ∈ l,(Lit.int .i64 x.f0).wf=true) : Ev (fun q=>spec_DecodeLocal.f q g e m l) (dlVal g e m l):=by
 unfold spec_DecodeLocal.f dlVal
 simp only [spec_GoodLocal.ev,Option.bind_some,decide_eq_true_eq]
 by_cases h : GoodLocal g e m
 ·refine ev_pos h ?_
  simp only [spec_l4Many.ev h,Option.bind_some]
  obtain ⟨a,b,c,rfl,rfl,rfl,ha1,ha4,hb1,hb4,hab,hc1,hc4,he⟩:=GoodLocal_nat h
  have hsum : (a : Int)*(b : Int)+(a : Int)+(c : Int)=((a*b+a+c : Nat) : Int):=by rw [he];omega
  have e2 : ((a : Int)*(b : Int)).toNat=a*b:=by rw [he,Int.toNat_natCast]
  have h1 : 1≤a*b:=Nat.mul_pos ha1 hb1
  rw [hsum,e2,Int.toNat_natCast,Int.toNat_natCast,Int.toNat_natCast,Int.toNat_natCast]
  refine ev_bind (spec_l3Shards.ev l (a*b+a+c) (by omega) hl hw) ?_
  refine Ev.step (fun k=>spec_DecodeLocal.j0.eq_2 _ _ _ _ _ k) ?_
  by_cases hr : sdOk l (a*b+a+c)=true
  ·rw [if_pos ⟨h,hr⟩]
   obtain ⟨s,hf⟩:=fine_of hr
   have hlen:=(sdOk_at hr).2.2
   refine ev_neg (by rw [hr];decide) ?_
   rw [spec_l4Data.ev h]
   simp only [Option.bind_some]
   rw [he]
   exact spec_DecodeLocal.ev_l0 h h1 (by omega) (by omega) l s (by omega) (by rw [localM_length];exact hf) l.length 0 [] (by omega) (by simp) (fun x hx=>by cases hx)
  ·rw [if_neg (fun z=>hr z.2)]
   have hfa : sdOk l (a*b+a+c)=false:=by simpa using hr
   exact ev_pos (by rw [hfa];rfl) (ev_now rfl)
 ·rw [if_neg (fun z=>h z.1)]
  refine ev_neg h ?_
  refine Ev.step (fun k=>spec_DecodeLocal.j0.eq_2 _ _ _ _ _ k) ?_
  exact ev_pos rfl (ev_now rfl)

theorem impl_added.ev_l0 (v w : List Int) (hv : Bytes v) (hw : Bytes w) (hl : v.length=w.length) (hs : v.length < 140737488355328) : ∀ (n i : Nat) (o : List Int),i+n=v.length→o=(addV v w).take i →
  Ev (fun k=>impl_added.l0 k w o v (v.length : Int) (i : Int)) (addV v w)
 | 0,i,o,hi,ho=>by
  refine Ev.step (fun k=>impl_added.l0.eq_2 _ _ _ _ _ k) ?_
  refine ev_neg (by omega) (ev_now ?_)
  subst ho
  rw [List.take_of_length_le (by rw [addV_length];omega)]
 | n+1,i,o,hi,ho=>by
  have hz:=addV_length v w
  have hlen : o.length=i:=by rw [ho,List.length_take,hz];omega
  refine Ev.step (fun k=>impl_added.l0.eq_2 _ _ _ _ _ k) ?_
  refine ev_pos (by omega) (ev_pos (by omega) (ev_pos (by omega) (ev_pos (by omega) (ev_pos (by omega) ?_))))
  rw [inc (by omega),xor_u8 (bytes_rd hv (by omega)) (bytes_rd hw (by omega)),rd_get (by omega),rd_get (by omega)]
  refine impl_added.ev_l0 v w hv hw hl hs n (i+1) _ (by omega) ?_
  rw [List.take_succ_eq_append_getElem (by omega),← ho]
  simp [addV]
theorem impl_added.ev {v w : List Int} (hv : Bytes v) (hw : Bytes w) (hl : v.length=w.length) (hs : v.length < 140737488355328) : Ev (fun k=>impl_added.f k v w) (addV v w):=by
 unfold impl_added.f
 exact impl_added.ev_l0 v w hv hw hl hs v.length 0 [] (by omega) rfl

theorem impl_scaled.ev_l0 (a : Int) (ha : Byte a) (v : List Int) (hv : Bytes v) (hs : v.length < 140737488355328) : ∀ (n i : Nat) (o : List Int),i+n=v.length→o=(scale a v).take i →
  Ev (fun k=>impl_scaled.l0 k a o v (v.length : Int) (i : Int)) (scale a v)
 | 0,i,o,hi,ho=>by
  refine Ev.step (fun k=>impl_scaled.l0.eq_2 _ _ _ _ _ k) ?_
  refine ev_neg (by omega) (ev_now ?_)
  subst ho
  rw [List.take_of_length_le (by rw [scale_length];omega)]
 | n+1,i,o,hi,ho=>by
  have hz:=scale_length a v
  have hlen : o.length=i:=by rw [ho,List.length_take,hz];omega
  refine Ev.step (fun k=>impl_scaled.l0.eq_2 _ _ _ _ _ k) ?_
  refine ev_pos (by omega) (ev_pos (by omega) (ev_pos (by omega) ?_))
  refine ev_bind (impl_Times.ev ha (bytes_rd hv (by omega))) ?_
  refine ev_pos (by omega) ?_
  rw [inc (by omega),rd_get (by omega)]
  refine impl_scaled.ev_l0 a ha v hv hs n (i+1) _ (by omega) ?_
  rw [List.take_succ_eq_append_getElem (by omega),← ho]
  simp [scale]
theorem impl_scaled.ev {a : Int} (ha : Byte a) {v : List Int} (hv : Bytes v) (hs : v.length < 140737488355328) : Ev (fun k=>impl_scaled.f k a v) (scale a v):=by
 unfold impl_scaled.f
 exact impl_scaled.ev_l0 a ha v hv hs v.length 0 [] (by omega) rfl

theorem impl_Inverse.ev {a : Int} (ha : Byte a) : Ev (fun k=>impl_Inverse.f k a) (inv a):=by
 unfold impl_Inverse.f
 exact ev_bind (impl_power.ev ha 254 (by decide)) (ev_now (inv_pow a).symm)

theorem impl_rankOf.ev {l : List (List Int)} (h : 1≤l.length) (hs : sqM l=true) : impl_rankOf.f l=some (((rowI.red l (l.getD 0 []).length).2 : Nat) : Int):=by
 unfold impl_rankOf.f
 rw [if_neg (by omega),if_pos hs]

theorem impl_within.ev (a b c : Int) : impl_within.f a b c=some (decide (b≤a∧a≤c)):=by
 unfold impl_within.f
 by_cases h : a ≥ b
 ·rw [if_pos h];simp [h]
 ·rw [if_neg h];simp;omega

theorem impl_GoodLocal.ev (g e m : Int) : impl_GoodLocal.f g e m=some (decide (GoodLocal g e m)):=by
 unfold impl_GoodLocal.f
 simp only [impl_within.ev,Option.bind_some,decide_eq_true_eq]
 by_cases h1 : 1≤g∧g≤4
 ·by_cases h2 : 1≤e∧e≤4
  ·have em:=(small_mul ⟨h1,h2⟩).1
   rw [em]
   by_cases h3 : g*e≤8 <;> simp [h1,h2,h3]
  ·simp [h1,h2]
 ·simp [h1]

theorem impl_Local_all.ev {g e m : Int} (h : GoodLocal g e m) : impl_Local_all.f g e m=some (g*e+g+m):=by
 have hm:=small_mul h.1
 unfold impl_Local_all.f
 simp only [impl_Local_data.ev h,Option.bind_some]
 have e1 : wrap64 (wrap64 (g*e+g)+m)=g*e+g+m:=by unfold wrap64;omega
 rw [e1]


theorem impl_localRows.ev {g e m : Nat} (h : GoodLocal (g : Int) (e : Int) (m : Int)) : Ev (fun k=>impl_localRows.f k (g : Int) (e : Int) (m : Int)) (localM g e m):=by
 unfold impl_localRows.f
 have hm:=(small_mul h.1).1
 obtain ⟨⟨⟨h1,h2⟩,h3,h4⟩,h5,h6,h7⟩:=h
 have e1 : (g : Int)*(e : Int)=((g*e : Nat) : Int):=by rw [Int.natCast_mul]
 rw [e1] at h5
 unfold impl_Local_data.f
 simp only [Option.bind_some]
 rw [hm,e1]
 refine ev_bind (impl_identity.ev (g*e) (by omega)) ?_
 have hgr : Ev (fun k=>impl_grpRows.f (e : Int) k (g : Int) ((g*e : Nat) : Int)) (tab g (g*e) (grpAt e)):=by
  unfold impl_grpRows.f
  refine impl_filled.ev g (g*e) (grpAt e) (by omega) (by omega) (fun i hi j hj=>?_)
  unfold impl_grpRows.E
  refine ev_pos (by omega) (ev_now ?_)
  unfold grpAt
  have : (j : Int) / (e : Int)=((j / e : Nat) : Int):=by rw [Int.natCast_ediv]
  rw [this]
  by_cases c : j / e=i
  ·rw [if_pos c,if_pos (by omega)]
  ·rw [if_neg c,if_neg (by omega)]
 refine ev_bind hgr (ev_pos (by rw [idM_length,tab_length];omega) (ev_bind (impl_cauchy.ev m (g*e) (by omega) (by omega)) (ev_pos (by rw [List.length_append,idM_length,tab_length,tab_length];omega) (ev_now rfl))))

theorem impl_isIncreasing.ev_l0 (l : List Int) (n : Nat) (hn : n≤16) (hl : l.length≤1048576) (hw : ∀ x ∈ l,(Lit.int .i64 x).wf=true) : ∀ (d i : Nat),i+d=l.length→(∀ j,j < i→riseAt l n j=true)→Ev (fun k=>impl_isIncreasing.l0 k l (n : Int) l (l.length : Int) (i : Int)) (rising l n)
 | 0,i,hi,ha=>by
  refine Ev.step (fun k=>impl_isIncreasing.l0.eq_2 _ _ _ _ _ k) ?_
  exact ev_neg (by omega) (ev_now (rising_yes (fun j hj=>ha j (by omega))).symm)
 | d+1,i,hi,ha=>by
  have e : wrap64 ((n : Int) - 1)=(n : Int) - 1:=by unfold wrap64;omega
  refine Ev.step (fun k=>impl_isIncreasing.l0.eq_2 _ _ _ _ _ k) ?_
  refine ev_pos (by omega) (ev_pos (by omega) (ev_pos (by omega) ?_))
  simp only [impl_within.ev,Option.bind_some,decide_eq_true_eq,e]
  by_cases h : 0≤rd l (i : Int)∧rd l (i : Int)≤(n : Int) - 1
  ·refine ev_pos h ?_
   by_cases h0 : i=0
   ·subst h0
    refine ev_neg (by omega) ?_
    rw [inc (by omega)]
    refine impl_isIncreasing.ev_l0 l n hn hl hw d 1 (by omega) (fun j hj=>?_)
    have : j=0:=by omega
    subst this
    exact riseAt_yes h (.inl rfl)
   ·have e2 : wrap64 ((i : Int) - 1)=((i - 1 : Nat) : Int):=by unfold wrap64;omega
    refine ev_pos (by omega) ?_
    rw [e2]
    refine ev_pos (by omega) (ev_pos (by omega) ?_)
    by_cases h2 : rd l (i : Int)≤rd l ((i - 1 : Nat) : Int)
    ·exact ev_pos h2 (ev_now (rising_no (i:=i) (by omega) (riseAt_no (fun z=>by rcases z.2 with z | z <;> omega))).symm)
    ·refine ev_neg h2 ?_
     rw [inc (by omega)]
     refine impl_isIncreasing.ev_l0 l n hn hl hw d (i+1) (by omega) (fun j hj=>?_)
     by_cases ej : j=i
     ·subst ej;exact riseAt_yes h (.inr (by omega))
     ·exact ha j (by omega)
  ·exact ev_neg h (ev_now (rising_no (i:=i) (by omega) (riseAt_no (fun z=>h z.1))).symm)
theorem impl_isIncreasing.ev (l : List Int) (n : Nat) (hn : n≤16) (hl : l.length≤1048576) (hw : ∀ x ∈ l,(Lit.int .i64 x).wf=true) : Ev (fun k=>impl_isIncreasing.f k l (n : Int)) (rising l n):=by
 unfold impl_isIncreasing.f
 exact impl_isIncreasing.ev_l0 l n hn hl hw l.length 0 (by omega) (fun j hj=>absurd hj (by omega))

theorem impl_areEqual.ev {l : List ByteArray} (h : textsLe 140737488355328 l) : impl_areEqual.f l=some (textsOk l):=by
 unfold impl_areEqual.f
 exact if_pos (show l.length≤140737488355328∧∀ s ∈ l,s.size≤140737488355328 from h)

theorem impl_areShards.ev_l0 (l : List (S84)) (n : Nat) (hn : n≤16) (hl : l.length≤1048576) (hw : ∀ x ∈ l,(Lit.int .i64 x.f0).wf=true) (hs : ∀ x ∈ l,x.f1.size≤1048576) : ∀ (d i : Nat) (a : List Int) (b : List ByteArray),i+d=l.length→a=(numsOf l).take i→b=(txtsOf l).take i →
  Ev (fun k=>impl_areShards.l0 k (n : Int) a b l (l.length : Int) (i : Int)) (sdOk l n)
 | 0,i,a,b,hi,ha,hb=>by
  refine Ev.step (fun k=>impl_areShards.l0.eq_2 _ _ _ _ _ _ k) ?_
  refine ev_neg (by omega) ?_
  rw [ha,hb,List.take_of_length_le (by rw [numsOf_length];omega),List.take_of_length_le (by rw [txtsOf_length];omega)]
  refine ev_bind (impl_isIncreasing.ev (numsOf l) n hn (by rw [numsOf_length];exact hl) (fun x hx=>by obtain ⟨y,hy,rfl⟩:=List.mem_map.1 hx;exact hw y hy)) ?_
  unfold sdOk
  by_cases h : rising (numsOf l) n=true
  ·rw [h,Bool.true_and]
   refine ev_pos rfl ?_
   rw [impl_areEqual.ev (l:=txtsOf l) ⟨by rw [txtsOf_length];omega,fun s hx=>by obtain ⟨y,hy,rfl⟩:=List.mem_map.1 hx;have:=hs y hy;omega⟩]
   exact ev_now rfl
  ·have hf : rising (numsOf l) n=false:=by simpa using h
   rw [hf,Bool.false_and]
   exact ev_neg (by simp) (ev_now rfl)
 | d+1,i,a,b,hi,ha,hb=>by
  have hil : i < l.length:=by omega
  have hal : a.length=i:=by rw [ha,List.length_take,numsOf_length];omega
  have hbl : b.length=i:=by rw [hb,List.length_take,txtsOf_length];omega
  refine Ev.step (fun k=>impl_areShards.l0.eq_2 _ _ _ _ _ _ k) ?_
  refine ev_pos (by omega) (ev_pos (by omega) (ev_pos (by omega) (ev_pos (by omega) (ev_pos (by omega) ?_))))
  rw [rdSd hil,inc (by omega)]
  refine impl_areShards.ev_l0 l n hn hl hw hs d (i+1) _ _ (by omega) ?_ ?_
  ·rw [List.take_succ_eq_append_getElem (by rw [numsOf_length];exact hil),← ha];simp [numsOf]
  ·rw [List.take_succ_eq_append_getElem (by rw [txtsOf_length];exact hil),← hb];simp [txtsOf]
theorem impl_areShards.ev (l : List (S84)) (n : Nat) (hn : n≤16) (hl : l.length≤1048576) (hw : ∀ x ∈ l,(Lit.int .i64 x.f0).wf=true) (hs : ∀ x ∈ l,x.f1.size≤1048576) : Ev (fun k=>impl_areShards.f k l (n : Int)) (sdOk l n):=by
 unfold impl_areShards.f
 exact impl_areShards.ev_l0 l n hn hl hw hs l.length 0 [] [] (by omega) rfl rfl

theorem impl_sumOf.ev {s t : ByteArray} (hs : s.size < 140737488355328) (h : s.size=t.size) : Ev (fun k=>impl_sumOf.f k s t) (strOfNums (addV (bytesOf s) (bytesOf t))):=by
 unfold impl_sumOf.f
 exact ev_pos (by omega) (ev_bind (impl_added.ev (bytes_bytesOf s) (bytes_bytesOf t) (by rw [bytesOf_length,bytesOf_length];exact h) (by rw [bytesOf_length];exact hs)) (ev_now rfl))

theorem impl_timesOf.ev {a : Int} (ha : Byte a) {s : ByteArray} (hs : s.size < 140737488355328) : Ev (fun k=>impl_timesOf.f k a s) (strOfNums (scale a (bytesOf s))):=by
 unfold impl_timesOf.f
 exact ev_pos (by omega) (ev_bind (impl_scaled.ev ha (bytes_bytesOf s) (by rw [bytesOf_length];exact hs)) (ev_now rfl))

theorem impl_combined.ev_l1 (D : List ByteArray) (hD : ∀ j,j < D.length→(txt D j).size=(txt D 0).size) (hs : (txt D 0).size < 140737488355328) (hl : D.length < 4611686018427387904) (r : List Int) (hr : Bytes r) (hrl : r.length=D.length) (out : List ByteArray) (ho : out.length < 8796093022208)
  (R : List (List Int)) (x13 x14 : Int) {Z : List ByteArray} (K : Ev (fun k=>impl_combined.l0 k D (out ++ [strOfNums (mixTo r D (txt D 0).size D.length)]) R x13 (wrap64 (x14+1))) Z) : ∀ (d j : Nat),j+d=D.length →
  Ev (fun k=>impl_combined.l1 k D out r (strOfNums (mixTo r D (txt D 0).size j)) R x13 x14 D (D.length : Int) (j : Int)) Z
 | 0,j,hj=>by
  have e : j=D.length:=by omega
  subst e
  refine Ev.step (fun k=>impl_combined.l1.eq_2 _ _ _ _ _ _ _ _ _ _ k) ?_
  exact ev_neg (by omega) (ev_pos ho K)
 | d+1,j,hj=>by
  refine Ev.step (fun k=>impl_combined.l1.eq_2 _ _ _ _ _ _ _ _ _ _ k) ?_
  obtain ⟨h1,h2⟩:=mixTo_ok (n:=(txt D 0).size) hr hD j (by omega)
  have h3:=hD j (by omega)
  simp only [rdOf_nat]
  refine ev_pos (by omega) (ev_pos (by omega) (ev_pos (by omega) (ev_pos (by omega) ?_)))
  refine ev_bind (impl_timesOf.ev (bytes_rd hr (by omega)) (by omega)) (ev_bind (impl_sumOf.ev (by rw [strOfNums_size];omega) (by rw [strOfNums_size,strOfNums_size,scale_length,bytesOf_length];omega)) ?_)
  rw [bytesOf_str h1,bytesOf_str (scale_bytes (bytes_rd hr (by omega)) _),inc (by omega),rd_nat]
  exact impl_combined.ev_l1 D hD hs hl r hr hrl out ho R x13 x14 K d (j+1) (by omega)
theorem impl_combined.ev_l0 (D : List ByteArray) (hp : 0 < D.length) (hD : ∀ j,j < D.length→(txt D j).size=(txt D 0).size) (hs : (txt D 0).size < 140737488355328) (hl : D.length < 4611686018427387904) (R : List (List Int)) (hR : ∀ r ∈ R,Bytes r∧r.length=D.length) (hRl : R.length < 8796093022208) : ∀ (d i : Nat),i+d=R.length →
  Ev (fun k=>impl_combined.l0 k D ((mixT R D).take i) R (R.length : Int) (i : Int)) (mixT R D)
 | 0,i,hi=>by
  have hz:=mixT_length R D
  refine Ev.step (fun k=>impl_combined.l0.eq_2 _ _ _ _ _ k) ?_
  refine ev_neg (by omega) (ev_now ?_)
  rw [List.take_of_length_le (by omega)]
 | d+1,i,hi=>by
  have hz:=mixT_length R D
  have hlt : i < R.length:=by omega
  have hm:=hR _ (List.getElem_mem hlt)
  refine Ev.step (fun k=>impl_combined.l0.eq_2 _ _ _ _ _ k) ?_
  simp only [rdOf_zero,Int.toNat_natCast]
  rw [rdSS R i hlt]
  refine ev_pos (by omega) (ev_pos (by omega) (ev_pos (by omega) (ev_pos (by omega) (ev_pos (by omega) (ev_pos (by omega) ?_)))))
  refine impl_combined.ev_l1 D hD hs hl R[i] hm.1 hm.2 _ (by rw [List.length_take];omega) R _ _ ?_ D.length 0 (by omega)
  rw [inc (by omega)]
  have e : (mixT R D).take i ++ [strOfNums (mixTo R[i] D (txt D 0).size D.length)]=(mixT R D).take (i+1):=by
   rw [List.take_succ_eq_append_getElem (by omega)]
   simp [mixT]
  rw [e]
  exact impl_combined.ev_l0 D hp hD hs hl R hR hRl d (i+1) (by omega)
theorem impl_combined.ev {D : List ByteArray} (hp : 0 < D.length) (hD : ∀ j,j < D.length→(txt D j).size=(txt D 0).size) (hs : (txt D 0).size < 140737488355328) (hl : D.length < 4611686018427387904) {R : List (List Int)} (hR : ∀ r ∈ R,Bytes r∧r.length=D.length) (hRl : R.length < 8796093022208) : Ev (fun k=>impl_combined.f k R D) (mixT R D):=by
 unfold impl_combined.f
 exact impl_combined.ev_l0 D hp hD hs hl R hR hRl R.length 0 (by omega)

theorem impl_inverseOf.ev {l : List (List Int)} (hs : sqN l=true) : impl_inverseOf.f l=some (invM l):=by
 unfold impl_inverseOf.f
 rw [if_pos hs]

theorem impl_decoded.ev_l0 (M : List (List Int)) (n : Nat) (hM : ∀ r ∈ M,Bytes r∧r.length=n) (hn : 1≤n) (hn2 : n≤16) (hMl : M.length≤1000) (l : List (S84)) (hl : l.length=n) (hin : ∀ j,j < l.length→0≤rd (numsOf l) (j : Int)∧rd (numsOf l) (j : Int) < (M.length : Int)) (hts : ∀ j,j < l.length→(txt (txtsOf l) j).size=(txt (txtsOf l) 0).size∧(txt (txtsOf l) j).size≤40) : ∀ (d i : Nat) (a : List (List Int)) (b : List ByteArray),i+d=l.length→a=(someM M (numsOf l)).take i→b=(txtsOf l).take i →
  Ev (fun q=>impl_decoded.l0 q M a b l (l.length : Int) (i : Int)) (decM M l)
 | 0,i,a,b,hi,ha,hb=>by
  refine Ev.step (fun k=>impl_decoded.l0.eq_2 _ _ _ _ _ _ k) ?_
  refine ev_neg (by omega) ?_
  rw [ha,hb,List.take_of_length_le (by rw [someM_length,numsOf_length];omega),List.take_of_length_le (by rw [txtsOf_length];omega)]
  obtain ⟨s1,s2⟩:=dec_sq hM hn hn2 hl hin
  rw [impl_inverseOf.ev s1]
  simp only [Option.bind_some]
  unfold decM
  obtain ⟨o1,o2,o3⟩:=invM_ok s1
  rw [s2] at o1 o2 o3
  by_cases z : (invM (someM M (numsOf l))).2=true
  ·rw [if_pos z]
   refine ev_pos z (ev_bind ?_ (ev_now rfl))
   exact impl_combined.ev (by rw [txtsOf_length];omega) (fun j hj=>(hts j (by rw [txtsOf_length] at hj;exact hj)).1) (by have:=(hts 0 (by omega)).2;omega) (by rw [txtsOf_length];omega) (fun r hr=>⟨(o2 r hr).1,by rw [(o2 r hr).2,txtsOf_length,hl]⟩) (by omega)
  ·rw [if_neg z]
   exact ev_neg z (ev_now rfl)
 | d+1,i,a,b,hi,ha,hb=>by
  have hil : i < l.length:=by omega
  have hal : a.length=i:=by rw [ha,List.length_take,someM_length,numsOf_length];omega
  have hbl : b.length=i:=by rw [hb,List.length_take,txtsOf_length];omega
  have h1:=hin i hil
  have hx:=nums_rd hil
  rw [hx] at h1
  refine Ev.step (fun k=>impl_decoded.l0.eq_2 _ _ _ _ _ _ k) ?_
  rw [rdSd hil]
  refine ev_pos (by omega) (ev_pos (by omega) (ev_pos (by omega) (ev_pos h1.1 (ev_pos h1.2 (ev_pos (by omega) (ev_pos (by omega) ?_))))))
  rw [inc (by omega),rdSS0]
  refine impl_decoded.ev_l0 M n hM hn hn2 hMl l hl hin hts d (i+1) _ _ (by omega) ?_ ?_
  ·rw [someM_succ _ (by rw [numsOf_length];exact hil),← ha,hx]
  ·rw [List.take_succ_eq_append_getElem (by rw [txtsOf_length];exact hil),← hb];simp [txtsOf]
theorem impl_decoded.ev {M : List (List Int)} {n : Nat} (hM : ∀ r ∈ M,Bytes r∧r.length=n) (hn : 1≤n) (hn2 : n≤16) (hMl : M.length≤1000) {l : List (S84)} (hl : l.length=n) (hin : ∀ j,j < l.length→0≤rd (numsOf l) (j : Int)∧rd (numsOf l) (j : Int) < (M.length : Int)) (hts : ∀ j,j < l.length→(txt (txtsOf l) j).size=(txt (txtsOf l) 0).size∧(txt (txtsOf l) j).size≤40) :
  Ev (fun q=>impl_decoded.f q M l) (decM M l):=by
 unfold impl_decoded.f
 exact impl_decoded.ev_l0 M n hM hn hn2 hMl l hl hin hts l.length 0 [] [] (by omega) rfl rfl

theorem impl_DecodeLocal.ev_l0 {a b c : Nat} (h : GoodLocal (a : Int) (b : Int) (c : Int)) (h1 : 1≤a*b) (h8 : a*b≤8) (h16 : a*b+a+c≤16) (l : List (S84)) (s : Nat) (hl : l.length≤16) (hf : ∀ x ∈ l,shFine (localM a b c).length s x) : ∀ (d i : Nat) (u : List (S84)),i+d=l.length→u.length≤a*b→(∀ x ∈ u,shFine (localM a b c).length s x) →
  Ev (fun k=>impl_DecodeLocal.l0 k (localM a b c) (someM (localM a b c) (numsOf u)) u l (l.length : Int) (i : Int) (a : Int) (b : Int) (c : Int)) (dlFin (localM a b c) (a*b) ((l.drop i).foldl (pickS (localM a b c) (a*b)) u))
 | 0,i,u,hi,hu,hfu=>by
  have hM:=localM_rows a b c
  have hML:=localM_length a b c
  have he : (a : Int)*(b : Int)=((a*b : Nat) : Int):=(Int.natCast_mul a b).symm
  refine Ev.step (fun k=>impl_DecodeLocal.l0.eq_2 _ _ _ _ _ _ _ _ _ k) (ev_neg (by omega) ?_)
  rw [List.drop_eq_nil_of_le (by omega),impl_Local_data.ev h]
  simp only [Option.bind_some]
  rw [he]
  show Ev _ (dlFin (localM a b c) (a*b) u)
  unfold dlFin
  by_cases z : u.length < a*b
  ·rw [if_pos z]
   exact ev_pos (by omega) (ev_now rfl)
  ·rw [if_neg z]
   have hul : u.length=a*b:=by omega
   exact ev_neg (by omega) (ev_bind (impl_decoded.ev hM h1 (by omega) (by omega) hul (fun j hj=>fine_in hfu j hj) (fine_txt hfu)) (ev_now rfl))
 | d+1,i,u,hi,hu,hfu=>by
  have hil : i < l.length:=by omega
  have hM:=localM_rows a b c
  have hML:=localM_length a b c
  have hx:=hf _ (List.getElem_mem hil)
  have hsl : (someM (localM a b c) (numsOf u)).length=u.length:=by rw [someM_length,numsOf_length]
  have e : ([] : List (List Int)) ++ someM (localM a b c) (numsOf u) ++ [(localM a b c).getD ((l[i]).f0).toNat []]=someM (localM a b c) (numsOf (u ++ [l[i]])):=by simp [numsOf,someM]
  have hfx:=fine_snoc hfu hx
  obtain ⟨p1,p2⟩:=pick_fine (M:=localM a b c) hu hfu hx
  have ih:=impl_DecodeLocal.ev_l0 h h1 h8 h16 l s hl hf d (i+1) _ (by omega) p1 p2
  rw [List.drop_eq_getElem_cons hil,List.foldl_cons]
  refine Ev.step (fun k=>impl_DecodeLocal.l0.eq_2 _ _ _ _ _ _ _ _ _ k) ?_
  unfold slices_Clone_byte_byte_SS.f
  rw [rdSd hil,rdSS0]
  simp only [Option.bind_some]
  refine ev_pos (by omega) (ev_pos (by omega) (ev_pos (by omega) ?_))
  rw [if_pos (show ([] : List (List Int)).length+(someM (localM a b c) (numsOf u)).length < 5864062014805 by rw [List.length_nil];omega)]
  simp only [Option.bind_some]
  have hx1:=hx.1
  refine ev_pos (by omega) (ev_pos (by omega) (ev_pos (by rw [List.nil_append,List.length_singleton];omega) ?_))
  rw [e,inc (by omega)]
  obtain ⟨s1,s2,s3⟩:=some_sqF hM (by omega) hfx (by simp) (by rw [List.length_append,List.length_singleton];omega)
  rw [impl_rankOf.ev (by rw [s2];simp) s1,s3]
  simp only [Option.bind_some]
  have hux : (u ++ [l[i]]).length=u.length+1:=by rw [List.length_append,List.length_singleton]
  rw [s2,hux]
  unfold pickS at ih ⊢
  by_cases y : (rowI.red (someM (localM a b c) (numsOf (u ++ [l[i]]))) (a*b)).2=u.length+1
  ·rw [if_pos y] at ih ⊢
   exact ev_pos (by omega) (ev_pos (by rw [List.length_singleton];omega) ih)
  ·rw [if_neg y] at ih ⊢
   exact ev_neg (by omega) ih
theorem impl_DecodeLocal.ev (g e m : Int) (l : List (S84)) (hl : l.length≤1048576) (hw : ∀ x ∈ l,(Lit.int .i64 x.f0).wf=true) (hs : ∀ x ∈ l,x.f1.size≤1048576) : Ev (fun q=>impl_DecodeLocal.f q g e m l) (dlVal g e m l):=by
 unfold impl_DecodeLocal.f dlVal
 simp only [impl_GoodLocal.ev,Option.bind_some,decide_eq_true_eq]
 by_cases h : GoodLocal g e m
 ·refine ev_pos h ?_
  simp only [impl_Local_all.ev h,Option.bind_some]
  obtain ⟨a,b,c,rfl,rfl,rfl,ha1,ha4,hb1,hb4,hab,hc1,hc4,he⟩:=GoodLocal_nat h
  have hsum : (a : Int)*(b : Int)+(a : Int)+(c : Int)=((a*b+a+c : Nat) : Int):=by rw [he];omega
  have e2 : ((a : Int)*(b : Int)).toNat=a*b:=by rw [he,Int.toNat_natCast]
  have h1 : 1≤a*b:=Nat.mul_pos ha1 hb1
  rw [hsum,e2,Int.toNat_natCast,Int.toNat_natCast,Int.toNat_natCast,Int.toNat_natCast]
  refine ev_bind (impl_areShards.ev l (a*b+a+c) (by omega) hl hw hs) ?_
  refine Ev.step (fun k=>impl_DecodeLocal.j0.eq_2 _ _ _ _ _ k) ?_
  by_cases hr : sdOk l (a*b+a+c)=true
  ·rw [if_pos ⟨h,hr⟩]
   obtain ⟨s,hf⟩:=fine_of hr
   have hlen:=(sdOk_at hr).2.2
   refine ev_neg (by rw [hr];decide) (ev_bind (impl_localRows.ev h) ?_)
   exact impl_DecodeLocal.ev_l0 h h1 (by omega) (by omega) l s (by omega) (by rw [localM_length];exact hf) l.length 0 [] (by omega) (by simp) (fun x hx=>by cases hx)
  ·rw [if_neg (fun z=>hr z.2)]
   have hfa : sdOk l (a*b+a+c)=false:=by simpa using hr
   exact ev_pos (by rw [hfa];rfl) (ev_now rfl)
 ·rw [if_neg (fun z=>h z.1)]
  refine ev_neg h ?_
  refine Ev.step (fun k=>impl_DecodeLocal.j0.eq_2 _ _ _ _ _ k) ?_
  exact ev_pos rfl (ev_now rfl)

theorem sd_of {l : List (S160)} (h : (l.length : Int)+(totSh l : Int)≤1048576) (hw : ∀ x ∈ l,(Lit.int .i64 x.f0).wf=true∧x.f1.size≤maxLen) : (l.map toSd).length≤1048576∧(∀ x ∈ l.map toSd,(Lit.int .i64 x.f0).wf=true)∧∀ x ∈ l.map toSd,x.f1.size≤1048576:=by
 refine ⟨by rw [List.length_map];omega,fun x hx=>?_,fun x hx=>?_⟩
 ·obtain ⟨y,hy,rfl⟩:=List.mem_map.1 hx
  exact (hw y hy).1
 ·obtain ⟨y,hy,rfl⟩:=List.mem_map.1 hx
  have:=mem_totSh hy
  show y.f1.size≤1048576
  omega
theorem dlVal_ok (g e m : Int) (l : List (S84)) : (dlVal g e m l).1.length≤16:=by
 unfold dlVal
 by_cases h : GoodLocal g e m∧sdOk l (g*e+g+m).toNat=true
 ·rw [if_pos h]
  obtain ⟨a,b,c,rfl,rfl,rfl,ha1,ha4,hb1,hb4,hab,hc1,hc4,he⟩:=GoodLocal_nat h.1
  have hsum : (a : Int)*(b : Int)+(a : Int)+(c : Int)=((a*b+a+c : Nat) : Int):=by rw [he];omega
  have e2 : ((a : Int)*(b : Int)).toNat=a*b:=by rw [he,Int.toNat_natCast]
  have h2:=h.2
  rw [hsum,Int.toNat_natCast] at h2
  rw [e2,Int.toNat_natCast,Int.toNat_natCast,Int.toNat_natCast]
  obtain ⟨s,hf⟩:=fine_of h2
  have hM:=localM_rows a b c
  have h1 : 1≤a*b:=Nat.mul_pos ha1 hb1
  have key : ∀ (l u : List (S84)),(∀ x ∈ l,shFine (localM a b c).length s x)→u.length≤a*b→(∀ x ∈ u,shFine (localM a b c).length s x)→(l.foldl (pickS (localM a b c) (a*b)) u).length≤a*b∧∀ x ∈ l.foldl (pickS (localM a b c) (a*b)) u,shFine (localM a b c).length s x:=by
   intro l
   induction l with
   | nil=>exact fun u _ h1 h2=>⟨h1,h2⟩
   | cons x t ih =>
    intro u hl hu hfu
    obtain ⟨p1,p2⟩:=pick_fine (M:=localM a b c) hu hfu (hl x (by simp))
    exact ih _ (fun y hy=>hl y (by simp [hy])) p1 p2
  obtain ⟨k1,k2⟩:=key l [] (by rw [localM_length];exact hf) (by simp) (fun x hx=>by cases hx)
  generalize l.foldl (pickS (localM a b c) (a*b)) []=u at k1 k2
  unfold dlFin
  by_cases z : u.length < a*b
  ·rw [if_pos z];simp
  ·rw [if_neg z]
   unfold decM
   by_cases y : (invM (someM (localM a b c) (numsOf u))).2=true
   ·rw [if_pos y]
    obtain ⟨s1,s2⟩:=dec_sq hM h1 (by omega) (show u.length=a*b by omega) (fun j hj=>fine_in k2 j hj)
    have:=(invM_ok s1).2.2
    show (mixT _ _).length≤16
    rw [mixT_length]
    omega
   ·rw [if_neg y];simp
 ·rw [if_neg h];simp
theorem FnExactDecodeLocal : ∀ (g e m : Int) (l : List (S160)),((Lit.int .i64 g).wf=true∧(Lit.int .i64 e).wf=true∧(Lit.int .i64 m).wf=true)→(l.length≤maxLen∧∀ x ∈ l,(Lit.int .i64 x.f0).wf=true∧x.f1.size≤maxLen)→∃ q,laws_FnExactDecodeLocal.f q g e m l=some true:=by
 intro g e m l _ hl
 refine Ev.rounds ?_
 unfold laws_FnExactDecodeLocal.f
 refine ev_bind (laws_szShardS.ev l hl.1 (fun x hx=>(hl.2 x hx).2)) ?_
 by_cases h : (l.length : Int)+(totSh l : Int)≤1048576
 ·rw [if_pos h]
  obtain ⟨h1,h2,h3⟩:=sd_of h hl.2
  have ht:=laws_toShardS.ev l (by omega)
  refine ev_neg (by omega) ?_
  have hs:=spec_DecodeLocal.ev g e m (l.map toSd) h1 h2
  have hi:=impl_DecodeLocal.ev g e m (l.map toSd) h1 h2 h3
  have o1:=dlVal_ok g e m (l.map toSd)
  generalize dlVal g e m (l.map toSd)=rb at hs hi o1
  generalize l.map toSd=x at ht hs hi h1
  obtain ⟨r,b⟩:=rb
  have hv1 : r.length≤16:=o1
  clear h2 h3
  repeat first
   | exact ev_now rfl
   | (simp only [laws_toLocal.ev,Option.bind_some])
   | refine ev_bind ht ?_
   | refine ev_bind hs ?_
   | refine ev_bind hi ?_
   | refine ev_bind (laws_eqShardS.ev _ (by omega)) ?_
   | refine ev_bind (laws_eqStringS.ev _ (by omega)) ?_
   | refine ev_bind (laws_markShardS.ev _ _ (by omega) (by omega)) ?_
   | refine ev_bind (laws_markStringS.ev _ _ (by omega) (by omega)) ?_
   | refine ev_bind (laws_heldStringS.ev _ _ (by omega) (by omega)) ?_
   | refine Ev.step (fun k=>laws_FnExactDecodeLocal.j0.eq_2 _ _ _ _ _ _ _ _ _ _ k) ?_
   | refine Ev.step (fun k=>laws_FnExactDecodeLocal.j1.eq_2 _ _ _ _ _ _ _ _ k) ?_
   | refine Ev.step (fun k=>laws_FnExactDecodeLocal.j2.eq_2 _ _ _ k) ?_
   | refine ev_pos rfl ?_
   | (refine ev_neg ?hc ?_;(case hc=>first | omega | (simp;done) | (simp;omega)))
   | (refine ev_pos ?hc ?_;(case hc=>first | omega | (simp;done)))
 ·rw [if_neg h]
  exact ev_pos (by omega) (ev_now rfl)

end Go.Proofs.Ytajikfnpcobnpaa.Pure
-- HALVED
-- SQUEEZED
