/- Each square part of a Cauchy matrix has an inverse, and as many rows of powers as there are columns are independent, for all drawn sizes and parts; there is no condition. -/
import Derived.Test.YteflgifmdojahaaPFnCauchyx4
import Derived.Test.YteflgifmdojahaaVFnCauchyA
import Derived.Test.YteflgifmdojahaaVFnCauchyC
namespace Go.Proofs.Yteflgifmdojahaa.Pure
open Go.RowKit Go.Proofs.Yteflgifmdojahaa.PFnCauchy Go.Proofs.YteflgifmdojahaaW.PrintWords Go.Proofs.YteflgifmdojahaaW.PrintLast Go.Proofs.Yteflgifmdojahaa.Gf Go.Proofs.Yteflgifmdojahaa.Kit Go.Proofs.Yteflgifmdojahaa.KitW
open Go.Proofs.Yteflgifmdojahaa.KitN hiding idM_length
set_option linter.unusedVariables false
set_option linter.unusedSimpArgs false

theorem sqM_good {l : List (List Int)} (h : goodM l=true) (hb : matBytes l) : sqM l=true:=by
 obtain ⟨h1,h2,h3⟩:=goodM_iff h
 refine sqM_iff.2 ⟨by omega,by omega,fun r hr=>⟨hb r hr,?_⟩⟩
 obtain ⟨i,hi,rfl⟩:=List.getElem_of_mem hr
 have:=h3 i hi
 rw [List.getD_eq_getElem?_getD,List.getElem?_eq_getElem hi] at this
 exact this

theorem sqN_good {l : List (List Int)} (h : goodM l=true) (hb : matBytes l) (e : l.length=(l.getD 0 []).length) : sqN l=true:=by
 unfold sqN
 rw [sqM_good h hb,decide_eq_true (goodM_iff h).1.1,decide_eq_true e.symm]
 rfl

def rankVal (l : List (List Int)) : Int × Bool:=if goodM l=true then (((rowI.red l (l.getD 0 []).length).2 : Nat),true) else (0,false)

def invVal (l : List (List Int)) : List (List Int) × Bool:=if goodM l=true∧l.length=(l.getD 0 []).length then invM l else ([],false)

theorem goodM_of {l : List (List Int)} {n : Nat} (h : ∀ x ∈ l,Bytes x∧x.length=n) (h1 : 1≤l.length) (h2 : l.length≤16) (h3 : 1≤n) (h4 : n≤16) : goodM l=true:=by
 have hl : ∀ i,i < l.length→(l.getD i []).length=n:=fun i hi=>by
  rw [List.getD_eq_getElem?_getD,List.getElem?_eq_getElem hi]
  exact (h _ (List.getElem_mem hi)).2
 have h0:=hl 0 (by omega)
 unfold goodM
 rw [Bool.and_eq_true,decide_eq_true_eq,Bool.not_eq_true',List.any_eq_false]
 refine ⟨by omega,fun i hi=>?_⟩
 rw [List.mem_range] at hi
 rw [hl i hi,h0,bne_self_eq_false]
 decide

theorem rdSS (l : List (List Int)) (i : Nat) (h : i < l.length) : rd_L1 l (i : Int)=l[i]:=by unfold rd_L1;simp [List.getD,h]
theorem rdSS0 (l : List (List Int)) (i : Int) : rd_L1 l i=l.getD i.toNat []:=rfl
theorem impl_Times.ev_l0 (b : Nat) (hb : b < 256) : ∀ (n i o x : Nat),i+n=8→o < 256→x < 256 →
  Ev (fun k=>impl_Times.l0 k (b : Int) (o : Int) (i : Int) (x : Int)) ((T n o x (b / 2 ^ i) : Nat) : Int)
 | 0,i,o,x,hi,ho,hx=>by
  refine Ev.step (fun k=>impl_Times.l0.eq_2 _ _ _ _ k) ?_
  refine ev_neg (by omega) (ev_now ?_)
  simp only [T]
  omega
 | n+1,i,o,x,hi,ho,hx=>by
  refine Ev.step (fun k=>impl_Times.l0.eq_2 _ _ _ _ k) ?_
  refine ev_pos (by omega) (ev_pos (by omega) ?_)
  have e1 : shr .u8 (b : Int) (i : Int)=((b / 2 ^ i : Nat) : Int):=by
   unfold shr
   rw [Nat.min_eq_left (by simp only [IntKind.bits];omega)]
   simp
  have hd : b / 2 ^ i < 256:=Nat.lt_of_le_of_lt (Nat.div_le_self _ _) hb
  have e2 : wrap64 ((x : Int)*2)=((2*x : Nat) : Int):=by rw [wrap_id (by omega) (by omega)];omega
  have e3 : wrap64 ((i : Int)+1)=((i+1 : Nat) : Int):=by rw [wrap_id (by omega) (by omega)];omega
  rw [e1,and1_u8 hd,e2,e3]
  have e4 : Go.bits .xor .i64 (o : Int) (x : Int)=((o ^^^ x : Nat) : Int):=xor_i64 (by omega) (by omega)
  have e5 : Go.bits .xor .i64 ((2*x : Nat) : Int) 283=((2*x ^^^ 283 : Nat) : Int):=xor_i64 (m:=2*x) (n:=283) (by omega) (by omega)
  have e6 : b / 2 ^ i / 2=b / 2 ^ (i+1):=by rw [Nat.div_div_eq_div_mul,Nat.pow_succ]
  rw [e4,e5]
  have hT : T (n+1) o x (b / 2 ^ i)=T n (if b / 2 ^ i % 2=1 then o ^^^ x else o) (xt x) (b / 2 ^ (i+1)):=by rw [T,e6]
  rw [hT]
  have hxt:=xt_lt hx
  have hox:=xor_lt ho hx
  by_cases h1 : b / 2 ^ i % 2=1
  ·rw [if_pos h1]
   refine ev_pos (by omega) ?_
   by_cases h2 : 2*x > 255
   ·refine ev_pos (by omega) ?_
    have : xt x=2*x ^^^ 283:=by unfold xt;rw [if_pos h2]
    rw [this] at hxt ⊢
    exact impl_Times.ev_l0 b hb n (i+1) _ _ (by omega) hox hxt
   ·refine ev_neg (by omega) ?_
    have : xt x=2*x:=by unfold xt;rw [if_neg h2]
    rw [this] at hxt ⊢
    exact impl_Times.ev_l0 b hb n (i+1) _ _ (by omega) hox hxt
  ·rw [if_neg h1]
   refine ev_neg (by omega) ?_
   by_cases h2 : 2*x > 255
   ·refine ev_pos (by omega) ?_
    have : xt x=2*x ^^^ 283:=by unfold xt;rw [if_pos h2]
    rw [this] at hxt ⊢
    exact impl_Times.ev_l0 b hb n (i+1) _ _ (by omega) ho hxt
   ·refine ev_neg (by omega) ?_
    have : xt x=2*x:=by unfold xt;rw [if_neg h2]
    rw [this] at hxt ⊢
    exact impl_Times.ev_l0 b hb n (i+1) _ _ (by omega) ho hxt
theorem impl_Times.ev {a b : Int} (ha : Byte a) (hb : Byte b) : Ev (fun k=>impl_Times.f k a b) (mul a b):=by
 obtain ⟨m,hm,rfl⟩:=ha.nat
 obtain ⟨n,hn,rfl⟩:=hb.nat
 unfold impl_Times.f
 rw [wrap_id (by omega) (by omega)]
 have h:=impl_Times.ev_l0 n hn 8 0 0 m rfl (by decide) hm
 exact ev_eq h (by unfold Gf.mul gm;simp)

theorem impl_power.ev_l0 : ∀ (N n : Nat) (a o : Int),n≤N→n < 4294967296→Byte a→Byte o→Ev (fun k=>impl_power.l0 k a (n : Int) o) (mul o (pow a n)):=by
 intro N
 induction N with
 | zero =>
  intro n a o hN hn ha ho
  obtain rfl : n=0:=by omega
  refine Ev.step (fun k=>impl_power.l0.eq_2 _ _ _ k) ?_
  exact ev_neg (by omega) (ev_now (by rw [pow_zero,mul_one ho]))
 | succ N ih =>
  intro n a o hN hn ha ho
  refine Ev.step (fun k=>impl_power.l0.eq_2 _ _ _ k) ?_
  by_cases h0 : n=0
  ·subst h0
   exact ev_neg (by omega) (ev_now (by rw [pow_zero,mul_one ho]))
  refine ev_pos (by omega) ?_
  have e : ((n : Int) / 2)=((n / 2 : Nat) : Int):=by omega
  have haa:=Byte.mul ha a
  have hsq : pow (mul a a) (n / 2)=pow a (2*(n / 2)):=by rw [pow_mul ha,pow_two ha]
  rw [and1_i64 hn,e]
  by_cases h1 : n % 2=1
  ·refine ev_pos (by omega) ?_
   refine ev_bind (impl_Times.ev ho ha) (ev_bind (impl_Times.ev ha ha) ?_)
   refine ev_eq (ih (n / 2) _ _ (by omega) (by omega) haa (Byte.mul ho a)) ?_
   have hn2 : n=1+2*(n / 2):=by omega
   rw [hsq,mul_assoc ho ha (Byte.pow ha _)]
   conv=>rhs;rw [hn2,pow_add ha,pow_one ha]
  ·refine ev_neg (by omega) ?_
   refine ev_bind (impl_Times.ev ha ha) ?_
   refine ev_eq (ih (n / 2) _ _ (by omega) (by omega) haa ho) ?_
   have hn2 : n=2*(n / 2):=by omega
   rw [hsq,← hn2]
theorem impl_power.ev {a : Int} (ha : Byte a) (n : Nat) (hn : n < 4294967296) : Ev (fun k=>impl_power.f k a (n : Int)) (pow a n):=by
 unfold impl_power.f
 refine ev_eq (impl_power.ev_l0 n n a 1 (Nat.le_refl _) hn ha .one) ?_
 exact one_mul (Byte.pow ha n)

theorem impl_identity.ev_l0 (n : Nat) (hn : n≤1048576) : ∀ (d i : Nat) (o : List (List Int)),i+d=n→o=(idM n).take i→Ev (fun k=>impl_identity.l0 k (n : Int) o (n : Int) (i : Int)) (idM n)
 | 0,i,o,hi,ho=>by
  refine Ev.step (fun k=>impl_identity.l0.eq_2 _ _ _ _ k) ?_
  refine ev_neg (by omega) (ev_now ?_)
  rw [ho,List.take_of_length_le (by simp [idM];omega)]
 | d+1,i,o,hi,ho=>by
  have hl : o.length=i:=by rw [ho,List.length_take];simp [idM];omega
  refine Ev.step (fun k=>impl_identity.l0.eq_2 _ _ _ _ k) ?_
  simp only [Option.bind_some,Int.toNat_natCast,List.length_replicate]
  refine ev_pos (by omega) (ev_pos (by omega) (ev_pos (by omega) (ev_pos (by omega) (ev_pos (by omega) (ev_pos (by omega) ?_)))))
  rw [inc (by omega)]
  refine impl_identity.ev_l0 n hn d (i+1) _ (by omega) ?_
  rw [List.take_succ_eq_append_getElem (by simp [idM];omega),← ho]
  simp [idM]
theorem impl_identity.ev (n : Nat) (hn : n≤1048576) : Ev (fun k=>impl_identity.f k (n : Int)) (idM n):=by
 unfold impl_identity.f
 exact impl_identity.ev_l0 n hn n 0 [] (by omega) rfl

theorem impl_filled.ev_l1 {E : Nat→Int→Int→Option Int} (n m : Nat) (f : Nat→Nat→Int) (hm : m≤1048576) (i : Nat) (hE : ∀ j,j < m→Ev (fun k=>E k (i : Int) (j : Int)) (f i j)) (out : List (List Int)) (ho : out.length < 5864062014805) {R : List (List Int)}
  (K : Ev (fun k=>impl_filled.l0 E k (m : Int) (out ++ [(List.range m).map (f i)]) (n : Int) (wrap64 ((i : Int)+1))) R) : ∀ (d j : Nat) (o : List Int),j+d=m→o=(List.range j).map (f i) →
  Ev (fun k=>impl_filled.l1 E k (m : Int) out (i : Int) o (n : Int) (i : Int) (m : Int) (j : Int)) R
 | 0,j,o,hj,hoj=>by
  refine Ev.step (fun k=>impl_filled.l1.eq_2 _ _ _ _ _ _ _ _ _ k) ?_
  refine ev_neg (by omega) (ev_pos ho ?_)
  rw [hoj,show j=m by omega]
  exact K
 | d+1,j,o,hj,hoj=>by
  have hol : o.length=j:=by rw [hoj];simp
  refine Ev.step (fun k=>impl_filled.l1.eq_2 _ _ _ _ _ _ _ _ _ k) ?_
  refine ev_pos (by omega) (ev_bind (hE j (by omega)) (ev_pos (by omega) ?_))
  rw [inc (by omega)]
  refine impl_filled.ev_l1 n m f hm i hE out ho K d (j+1) _ (by omega) ?_
  rw [hoj,List.range_succ,List.map_append]
  rfl
theorem impl_filled.ev_l0 {E : Nat→Int→Int→Option Int} (n m : Nat) (f : Nat→Nat→Int) (hn : n≤1048576) (hm : m≤1048576) (hE : ∀ i,i < n→∀ j,j < m→Ev (fun k=>E k (i : Int) (j : Int)) (f i j)) : ∀ (d i : Nat) (o : List (List Int)),i+d=n→o=tab i m f →
  Ev (fun k=>impl_filled.l0 E k (m : Int) o (n : Int) (i : Int)) (tab n m f)
 | 0,i,o,hi,ho=>by
  refine Ev.step (fun k=>impl_filled.l0.eq_2 _ _ _ _ _ k) ?_
  refine ev_neg (by omega) (ev_now ?_)
  rw [ho,show i=n by omega]
 | d+1,i,o,hi,ho=>by
  have hol : o.length=i:=by rw [ho,tab_length]
  have ih:=impl_filled.ev_l0 n m f hn hm hE d (i+1) (o ++ [(List.range m).map (f i)]) (by omega) (by
   rw [ho]
   unfold tab
   rw [List.range_succ,List.map_append]
   rfl)
  refine Ev.step (fun k=>impl_filled.l0.eq_2 _ _ _ _ _ k) ?_
  refine ev_pos (by omega) ?_
  exact impl_filled.ev_l1 n m f hm i (hE i (by omega)) o (by omega) (by rw [inc (by omega)];exact ih) m 0 [] (by omega) rfl
theorem impl_filled.ev {E : Nat→Int→Int→Option Int} (n m : Nat) (f : Nat→Nat→Int) (hn : n≤1048576) (hm : m≤1048576) (hE : ∀ i,i < n→∀ j,j < m→Ev (fun k=>E k (i : Int) (j : Int)) (f i j)) : Ev (fun k=>impl_filled.f E k (n : Int) (m : Int)) (tab n m f):=by
 unfold impl_filled.f
 exact impl_filled.ev_l0 n m f hn hm hE n 0 [] (by omega) rfl

theorem impl_cauchy.ev (n m : Nat) (hn : n≤1048576) (hm : m≤1048576) : Ev (fun k=>impl_cauchy.f k (n : Int) (m : Int)) (tab n m (cauAt m)):=by
 unfold impl_cauchy.f
 refine impl_filled.ev n m (cauAt m) hn hm (fun i hi j hj=>?_)
 unfold impl_cauchy.E
 exact ev_eq (impl_power.ev (mod_byte _) 254 (by decide)) (inv_pow _).symm

theorem low255 (y : Int) : 0≤wrap64 (Go.bits .and .u64 y 255)∧wrap64 (Go.bits .and .u64 y 255)≤255:=by
 have e : Go.bits .and .u64 y 255=IntKind.u64.wrap (((BitVec.ofInt 64 y &&& BitVec.ofInt 64 255).toNat : Nat) : Int):=rfl
 have h : (BitVec.ofInt 64 y &&& BitVec.ofInt 64 255).toNat≤255:=by
  rw [BitVec.toNat_and]
  exact Nat.le_trans Nat.and_le_right (by decide)
 rw [e]
 generalize (BitVec.ofInt 64 y &&& BitVec.ofInt 64 255).toNat=n at h
 have e2 : IntKind.u64.wrap (n : Int)=(n : Int):=by
  first
   | (rw [IntKind.wrap_u64];omega)
   | (simp [IntKind.wrap,IntKind.bits,IntKind.signed];omega)
 rw [e2,wrap_id (by omega) (by omega)]
 omega
theorem spec_l1Cur_next.some_ {s : List Int} (hs : Bytes s) {a z : Int} (h0 : 0≤a) (h1 : a≤4611686018427387904) : ∃ x z',spec_l1Cur_next.f s a z=some (x,a+1,z')∧0≤x∧x≤255:=by
 unfold spec_l1Cur_next.f
 have e : wrap64 (a+1)=a+1:=wrap_id (by omega) (by omega)
 rw [e]
 by_cases c1 : a < (s.length : Int)
 ·rw [if_pos c1,if_pos h0,if_pos (show a+1≤(s.length : Int) by omega)]
  refine ⟨_,_,rfl,?_⟩
  have hb : Byte (rd s a):=by
   obtain ⟨i,rfl⟩:=Int.eq_ofNat_of_zero_le h0
   have hi : i < s.length:=by omega
   rw [rd_nat,List.getD_eq_getElem?_getD,List.getElem?_eq_getElem hi]
   exact hs _ (List.getElem_mem hi)
  have hb1:=hb.1
  have hb2:=hb.2
  rw [wrap_id hb1 (by omega)]
  omega
 ·rw [if_neg c1,if_neg (show ¬ a+1≤(s.length : Int) by omega)]
  exact ⟨_,_,rfl,low255 _⟩

theorem spec_l1Cur_pick.some_ {s : List Int} (hs : Bytes s) {a z n : Int} (h0 : 0≤a) (h1 : a≤4611686018427387000) (hn : 1≤n) : ∃ x b z',spec_l1Cur_pick.f s a z n=some (x,b,z')∧0≤x∧x < n∧a≤b∧b≤a+2:=by
 unfold spec_l1Cur_pick.f
 by_cases c1 : n≤1
 ·rw [if_pos c1]
  exact ⟨_,_,_,rfl,by omega,by omega,by omega,by omega⟩
 ·rw [if_neg c1]
  obtain ⟨x,z1,e,hx0,hx1⟩:=spec_l1Cur_next.some_ hs (z:=z) h0 (by omega)
  rw [e,Option.bind_some]
  dsimp only
  by_cases c2 : n > 200
  ·rw [if_pos c2]
   obtain ⟨y,z2,e2,hy0,hy1⟩:=spec_l1Cur_next.some_ hs (a:=a+1) (z:=z1) (by omega) (by omega)
   rw [e2,Option.bind_some,if_neg (by omega)]
   refine ⟨_,a+1+1,_,rfl,?_,Int.tmod_lt_of_pos _ (by omega),by omega,by omega⟩
   rw [wrap_id (i:=x*256) (by omega) (by omega),wrap_id (by omega) (by omega)]
   exact Int.tmod_nonneg _ (by omega)
  ·rw [if_neg c2,if_neg (by omega)]
   exact ⟨_,a+1,_,rfl,Int.tmod_nonneg _ hx0,Int.tmod_lt_of_pos _ (by omega),by omega,by omega⟩

theorem spec_l1Cur_one.some_ {s : List Int} (hs : Bytes s) {a z n : Int} (h0 : 0≤a) (h1 : a≤4611686018427387000) (hn : 1≤n) : ∃ x b z',spec_l1Cur_one.f s a z n=some (x,b,z')∧a≤b∧b≤a+2:=by
 unfold spec_l1Cur_one.f
 obtain ⟨x,b,z1,e,hx0,hx1,hb0,hb1⟩:=spec_l1Cur_pick.some_ hs (z:=z) h0 h1 hn
 rw [e,Option.bind_some]
 exact ⟨_,_,_,rfl,hb0,hb1⟩

theorem spec_l1Cur_among.some_ {s : List Int} (hs : Bytes s) {a z : Int} {l : List Int} (h0 : 0≤a) (h1 : a≤4611686018427387000) (hl : 1≤l.length) : ∃ x b z',spec_l1Cur_among.f s a z l=some (x,b,z')∧a≤b∧b≤a+2:=by
 unfold spec_l1Cur_among.f
 obtain ⟨x,b,z1,e,hx0,hx1,hb0,hb1⟩:=spec_l1Cur_pick.some_ hs (z:=z) (n:=(l.length : Int)) h0 h1 (by omega)
 rw [e,Option.bind_some,if_pos hx0,if_pos hx1]
 exact ⟨_,_,_,rfl,hb0,hb1⟩

theorem spec_l1Cur_among.in_ {s : List Int} (hs : Bytes s) {a z : Int} {l : List Int} (h0 : 0≤a) (h1 : a≤4611686018427387000) (hl : 1≤l.length) : ∃ x b z',spec_l1Cur_among.f s a z l=some (x,b,z')∧x ∈ l∧a≤b∧b≤a+2:=by
 unfold spec_l1Cur_among.f
 obtain ⟨x,b,z1,e,hx0,hx1,hb0,hb1⟩:=spec_l1Cur_pick.some_ hs (z:=z) (n:=(l.length : Int)) h0 h1 (by omega)
 rw [e,Option.bind_some,if_pos hx0,if_pos hx1]
 obtain ⟨i,rfl⟩:=Int.eq_ofNat_of_zero_le hx0
 have hi : i < l.length:=by omega
 refine ⟨_,_,_,rfl,?_,hb0,hb1⟩
 rw [rd_get hi]
 exact List.getElem_mem hi
theorem spec_l1Cur_side.some_ {s : List Int} (hs : Bytes s) {a z : Int} (h0 : 0≤a) (h1 : a≤4611686018427380000) : ∃ x b z',spec_l1Cur_side.f s a z=some (x,b,z')∧0≤x∧x≤17∧a≤b∧b≤a+4:=by
 unfold spec_l1Cur_side.f
 obtain ⟨x,b,z1,e,hb0,hb1⟩:=spec_l1Cur_one.some_ hs (z:=z) (n:=30) h0 (by omega) (by decide)
 rw [e,Option.bind_some]
 dsimp only
 cases x with
 | true =>
  obtain ⟨y,c,z2,e2,hy,hc0,hc1⟩:=spec_l1Cur_among.in_ hs (a:=b) (z:=z1) (l:=[0,16,17]) (by omega) (by omega) (by decide)
  rw [if_pos rfl,e2,Option.bind_some]
  refine ⟨y,c,z2,rfl,?_,?_,by omega,by omega⟩
  ·simp at hy;omega
  ·simp at hy;omega
 | false =>
  obtain ⟨y,c,z2,e2,hy0,hy1,hc0,hc1⟩:=spec_l1Cur_pick.some_ hs (a:=b) (z:=z1) (n:=4) (by omega) (by omega) (by decide)
  rw [if_neg (by decide),e2,Option.bind_some]
  refine ⟨_,c,z2,rfl,?_,?_,by omega,by omega⟩
  ·show 0≤wrap64 (1+y);rw [wrap_id (by omega) (by omega)];omega
  ·show wrap64 (1+y)≤17;rw [wrap_id (by omega) (by omega)];omega

theorem spec_DrawVandermonde.some_ {s : List Int} (hs : Bytes s) : ∃ n m,spec_DrawVandermonde.f s=some (n,m):=by
 unfold spec_DrawVandermonde.f spec_DrawVandermonde.g
 obtain ⟨x,b,z1,e,_,_,hb0,hb1⟩:=spec_l1Cur_side.some_ hs (a:=0) (z:=0) (by decide) (by decide)
 rw [e]
 simp only [Option.bind_some]
 obtain ⟨y,c,z2,e2,_,_,_,_⟩:=spec_l1Cur_side.some_ hs (a:=b) (z:=z1) (by omega) (by omega)
 rw [e2]
 exact ⟨_,_,rfl⟩

theorem spec_DrawCauchy.some_ {s : List Int} (hs : Bytes s) : ∃ n m,spec_DrawCauchy.f s=some (n,m):=by
 unfold spec_DrawCauchy.f
 obtain ⟨n,m,e⟩:=spec_DrawVandermonde.some_ hs
 rw [e]
 exact ⟨_,_,rfl⟩

theorem impl_within.ev (a b c : Int) : impl_within.f a b c=some (decide (b≤a∧a≤c)):=by
 unfold impl_within.f
 by_cases h : a ≥ b
 ·rw [if_pos h];simp [h]
 ·rw [if_neg h];simp;omega

theorem impl_areSides.ev (n m : Int) : impl_areSides.f n m=some (decide ((1≤n∧n≤16)∧1≤m∧m≤16)):=by
 unfold impl_areSides.f
 simp only [impl_within.ev,Option.bind_some,decide_eq_true_eq]
 by_cases h : 1≤n∧n≤16
 ·by_cases h2 : 1≤m∧m≤16 <;> simp [h,h2]
 ·simp [h]

theorem spec_l1In.ev (a b c : Int) : spec_l1In.f a b c=some (decide (b≤a∧a≤c)):=by
 unfold spec_l1In.f
 by_cases h : a ≥ b
 ·rw [if_pos h];simp [h]
 ·rw [if_neg h];simp;omega

theorem spec_l2Blank.ev_l0 (n m : Nat) (hn : n≤1048576) (hm : m≤1048576) : ∀ (d i : Nat),i+d=n→Ev (fun k=>spec_l2Blank.l0 k (n : Int) (m : Int) (i : Int) (blankM i m)) (blankM n m)
 | 0,i,hi=>by
  obtain rfl : i=n:=by omega
  refine Ev.step (fun k=>spec_l2Blank.l0.eq_2 _ _ _ _ k) ?_
  exact ev_neg (by omega) (ev_now rfl)
 | d+1,i,hi=>by
  have ih:=spec_l2Blank.ev_l0 n m hn hm d (i+1) (by omega)
  refine Ev.step (fun k=>spec_l2Blank.l0.eq_2 _ _ _ _ k) ?_
  refine ev_pos (by omega) (ev_pos (by omega) (ev_pos (by omega) (ev_pos (by simp [blankM];omega) ?_)))
  rw [inc (by omega),Int.toNat_natCast]
  have e : blankM i m ++ [List.replicate m 0]=blankM (i+1) m:=by
   unfold blankM;rw [List.replicate_succ']
  rw [e]
  exact ih
theorem spec_l2Blank.ev (n m : Nat) (hn : n≤1048576) (hm : m≤1048576) : Ev (fun k=>spec_l2Blank.f k (n : Int) (m : Int)) (blankM n m):=by
 unfold spec_l2Blank.f
 exact spec_l2Blank.ev_l0 n m hn hm n 0 (by omega)

theorem spec_l1Times.ev_l0 : ∀ (n o x y : Nat),y < 2 ^ n→n≤8→o < 256→x < 256 →
  Ev (fun k=>spec_l1Times.l0 k (o : Int) (x : Int) (y : Int)) ((T n o x y : Nat) : Int)
 | 0,o,x,y,hy,_,ho,hx=>by
  refine Ev.step (fun k=>spec_l1Times.l0.eq_2 _ _ _ k) ?_
  have : y=0:=by simpa using hy
  subst this
  refine ev_neg (by decide) (ev_now ?_)
  simp only [T]
  omega
 | n+1,o,x,y,hy,hn,ho,hx=>by
  have hy8 : y < 256:=Nat.lt_of_lt_of_le hy (Nat.pow_le_pow_right (n:=2) (by decide) hn)
  by_cases h0 : y=0
  ·subst h0
   refine Ev.step (fun k=>spec_l1Times.l0.eq_2 _ _ _ k) ?_
   refine ev_neg (by decide) (ev_now ?_)
   rw [T_zero]
   omega
  refine Ev.step (fun k=>spec_l1Times.l0.eq_2 _ _ _ k) ?_
  refine ev_pos (by omega) ?_
  have e2 : wrap64 ((x : Int)*2)=((2*x : Nat) : Int):=by rw [wrap_id (by omega) (by omega)];omega
  have e3 : ((y : Int) / 2)=((y / 2 : Nat) : Int):=by omega
  have e4 : Go.bits .xor .i64 (o : Int) (x : Int)=((o ^^^ x : Nat) : Int):=xor_i64 (by omega) (by omega)
  have e5 : Go.bits .xor .i64 ((2*x : Nat) : Int) 283=((2*x ^^^ 283 : Nat) : Int):=xor_i64 (m:=2*x) (n:=283) (by omega) (by omega)
  rw [and1_i64 (by omega),e2,e3,e4,e5]
  have hT : T (n+1) o x y=T n (if y % 2=1 then o ^^^ x else o) (xt x) (y / 2):=by rw [T]
  rw [hT]
  have hxt:=xt_lt hx
  have hox:=xor_lt ho hx
  have hh : y / 2 < 2 ^ n:=by rw [Nat.pow_succ] at hy;omega
  by_cases h1 : y % 2=1
  ·rw [if_pos h1]
   refine ev_pos (by omega) ?_
   by_cases h2 : 2*x > 255
   ·refine ev_pos (by omega) ?_
    have : xt x=2*x ^^^ 283:=by unfold xt;rw [if_pos h2]
    rw [this] at hxt ⊢
    exact spec_l1Times.ev_l0 n _ _ _ hh (by omega) hox hxt
   ·refine ev_neg (by omega) ?_
    have : xt x=2*x:=by unfold xt;rw [if_neg h2]
    rw [this] at hxt ⊢
    exact spec_l1Times.ev_l0 n _ _ _ hh (by omega) hox hxt
  ·rw [if_neg h1]
   refine ev_neg (by omega) ?_
   by_cases h2 : 2*x > 255
   ·refine ev_pos (by omega) ?_
    have : xt x=2*x ^^^ 283:=by unfold xt;rw [if_pos h2]
    rw [this] at hxt ⊢
    exact spec_l1Times.ev_l0 n _ _ _ hh (by omega) ho hxt
   ·refine ev_neg (by omega) ?_
    have : xt x=2*x:=by unfold xt;rw [if_neg h2]
    rw [this] at hxt ⊢
    exact spec_l1Times.ev_l0 n _ _ _ hh (by omega) ho hxt
theorem spec_l1Times.ev {a b : Int} (ha : Byte a) (hb : Byte b) : Ev (fun k=>spec_l1Times.f k a b) (mul a b):=by
 obtain ⟨m,hm,rfl⟩:=ha.nat
 obtain ⟨n,hn,rfl⟩:=hb.nat
 unfold spec_l1Times.f
 rw [wrap_id (i:=(m : Int)) (by omega) (by omega),wrap_id (i:=(n : Int)) (by omega) (by omega)]
 have h:=spec_l1Times.ev_l0 8 0 m n hn (Nat.le_refl _) (by decide) hm
 exact ev_eq h (by unfold Gf.mul gm;simp)

theorem spec_l1Power.ev_l0 (a : Int) (ha : Byte a) : ∀ (n m : Nat),n < 4611686018427387904→Ev (fun k=>spec_l1Power.l0 k a (n : Int) (pow a m)) (pow a (m+n))
 | 0,m,_=>by
  refine Ev.step (fun k=>spec_l1Power.l0.eq_2 _ _ _ k) ?_
  exact ev_neg (by omega) (ev_now rfl)
 | n+1,m,hn=>by
  refine Ev.step (fun k=>spec_l1Power.l0.eq_2 _ _ _ k) ?_
  refine ev_pos (by omega) ?_
  refine ev_bind (spec_l1Times.ev (Byte.pow ha m) ha) ?_
  have e : wrap64 (((n+1 : Nat) : Int) - 1)=(n : Int):=by unfold wrap64;omega
  rw [e,← pow_succ]
  refine ev_eq (spec_l1Power.ev_l0 a ha n (m+1) (by omega)) ?_
  rw [Nat.add_right_comm,Nat.add_assoc]
theorem spec_l1Power.ev {a : Int} (ha : Byte a) (n : Nat) (hn : n < 4611686018427387904) : Ev (fun k=>spec_l1Power.f k a (n : Int)) (pow a n):=by
 unfold spec_l1Power.f
 have:=spec_l1Power.ev_l0 a ha n 0 hn
 rw [pow_zero,Nat.zero_add] at this
 exact this

theorem spec_l1Inverse.ev {a : Int} (ha : Byte a) : Ev (fun k=>spec_l1Inverse.f k a) (inv a):=by
 unfold spec_l1Inverse.f
 by_cases h : a=0
 ·subst h
  exact ev_pos rfl (ev_now inv_zero.symm)
 ·exact ev_neg h (ev_bind (spec_l1Power.ev ha 254 (by decide)) (ev_now (inv_pow a).symm))

theorem spec_l2Cauchy.ev_l1 (n m : Nat) (hn : n≤1048576) (hm : m≤1048576) (i : Nat) (hi : i < n) {R : List (List Int)}
  (K : Ev (fun k=>spec_l2Cauchy.l0 k (m : Int) (n : Int) (wrap64 ((i : Int)+1)) (filPart n m (cauAt m) (i+1) 0)) R) : ∀ (d j : Nat),j+d=m →
  Ev (fun k=>spec_l2Cauchy.l1 k (m : Int) (i : Int) (n : Int) (i : Int) (m : Int) (j : Int) (filPart n m (cauAt m) i j)) R
 | 0,j,hj=>by
  refine Ev.step (fun k=>spec_l2Cauchy.l1.eq_2 _ _ _ _ _ _ _ k) ?_
  refine ev_neg (by omega) ?_
  rw [show j=m by omega,filPart_next]
  exact K
 | d+1,j,hj=>by
  have hl:=filPart_length n m (cauAt m) i j
  have hr:=filPart_row (f:=cauAt m) (m:=m) (i:=i) (j:=j) hi
  refine Ev.step (fun k=>spec_l2Cauchy.l1.eq_2 _ _ _ _ _ _ _ k) ?_
  simp only [rdSS0,Int.toNat_natCast]
  refine ev_pos (by omega) (ev_pos (by omega) (ev_pos (by omega) ?_))
  refine ev_bind (spec_l1Inverse.ev (mod_byte _)) ?_
  refine ev_pos (by omega) (ev_pos (by omega) ?_)
  rw [inc (by omega),show inv ((Go.bits .xor .i64 (wrap64 ((m : Int)+(i : Int))) (j : Int)) % 256)=cauAt m i j from rfl,filPart_set (cauAt m) hi]
  exact spec_l2Cauchy.ev_l1 n m hn hm i hi K d (j+1) (by omega)
theorem spec_l2Cauchy.ev_l0 (n m : Nat) (hn : n≤1048576) (hm : m≤1048576) : ∀ (d i : Nat),i+d=n→Ev (fun k=>spec_l2Cauchy.l0 k (m : Int) (n : Int) (i : Int) (filPart n m (cauAt m) i 0)) (tab n m (cauAt m))
 | 0,i,hi=>by
  refine Ev.step (fun k=>spec_l2Cauchy.l0.eq_2 _ _ _ _ k) ?_
  refine ev_neg (by omega) (ev_now ?_)
  rw [show i=n by omega,filPart_all]
 | d+1,i,hi=>by
  have hl:=filPart_length n m (cauAt m) i 0
  have hr:=filPart_row (f:=cauAt m) (m:=m) (i:=i) (j:=0) (show i < n by omega)
  have ih:=spec_l2Cauchy.ev_l0 n m hn hm d (i+1) (by omega)
  refine Ev.step (fun k=>spec_l2Cauchy.l0.eq_2 _ _ _ _ k) ?_
  simp only [rdSS0,Int.toNat_natCast]
  refine ev_pos (by omega) (ev_pos (by omega) (ev_pos (by omega) ?_))
  rw [hr]
  exact spec_l2Cauchy.ev_l1 n m hn hm i (by omega) (by rw [inc (by omega)];exact ih) m 0 (by omega)
theorem spec_l2Cauchy.ev (n m : Nat) (hn : n≤1048576) (hm : m≤1048576) : Ev (fun k=>spec_l2Cauchy.f k (n : Int) (m : Int)) (tab n m (cauAt m)):=by
 unfold spec_l2Cauchy.f
 refine ev_bind (spec_l2Blank.ev n m (by omega) (by omega)) ?_
 have e : ((blankM n m).length : Int)=(n : Int):=by simp [blankM]
 rw [e,filPart_zero n m (cauAt m)]
 exact spec_l2Cauchy.ev_l0 n m hn hm n 0 (by omega)

def cauchyVal (n m : Int) : List (List Int) × Bool:=if (1≤n∧n≤16)∧1≤m∧m≤16 then (tab n.toNat m.toNat (cauAt m.toNat),true) else ([],false)
theorem spec_Cauchy.ev (n m : Int) : Ev (fun q=>spec_Cauchy.f q n m) (cauchyVal n m):=by
 unfold spec_Cauchy.f cauchyVal
 simp only [spec_l1In.ev,Option.bind_some,decide_eq_true_eq]
 by_cases h : 1≤n∧n≤16
 ·refine ev_pos h ?_
  by_cases h2 : 1≤m∧m≤16
  ·refine ev_pos h2 ?_
   rw [if_pos ⟨h,h2⟩]
   obtain ⟨a,rfl⟩:=Int.eq_ofNat_of_zero_le (show 0≤n by omega)
   obtain ⟨b,rfl⟩:=Int.eq_ofNat_of_zero_le (show 0≤m by omega)
   exact ev_bind (spec_l2Cauchy.ev a b (by omega) (by omega)) (ev_now rfl)
  ·exact ev_neg h2 (ev_now (if_neg (fun z=>h2 z.2)).symm)
 ·exact ev_neg h (ev_now (if_neg (fun z=>h z.1)).symm)

theorem impl_Cauchy.ev (n m : Int) : Ev (fun q=>impl_Cauchy.f q n m) (cauchyVal n m):=by
 unfold impl_Cauchy.f cauchyVal
 simp only [impl_areSides.ev,Option.bind_some,decide_eq_true_eq]
 by_cases h : (1≤n∧n≤16)∧1≤m∧m≤16
 ·refine ev_pos h ?_
  rw [if_pos h]
  obtain ⟨a,rfl⟩:=Int.eq_ofNat_of_zero_le (show 0≤n by omega)
  obtain ⟨b,rfl⟩:=Int.eq_ofNat_of_zero_le (show 0≤m by omega)
  exact ev_bind (impl_cauchy.ev a b (by omega) (by omega)) (ev_now rfl)
 ·exact ev_neg h (ev_now (if_neg h).symm)

def vanAt (i j : Nat) : Int:=pow ((i : Int) % 256) j
theorem spec_l2Vandermonde.ev_l1 (n m : Nat) (hn : n≤1048576) (hm : m≤1048576) (i : Nat) (hi : i < n) {R : List (List Int)}
  (K : Ev (fun k=>spec_l2Vandermonde.l0 k (n : Int) (wrap64 ((i : Int)+1)) (filPart n m vanAt (i+1) 0)) R) : ∀ (d j : Nat),j+d=m →
  Ev (fun k=>spec_l2Vandermonde.l1 k (i : Int) (n : Int) (i : Int) (m : Int) (j : Int) (filPart n m vanAt i j)) R
 | 0,j,hj=>by
  refine Ev.step (fun k=>spec_l2Vandermonde.l1.eq_2 _ _ _ _ _ _ k) ?_
  refine ev_neg (by omega) ?_
  rw [show j=m by omega,filPart_next]
  exact K
 | d+1,j,hj=>by
  have hl:=filPart_length n m vanAt i j
  have hr:=filPart_row (f:=vanAt) (m:=m) (i:=i) (j:=j) hi
  refine Ev.step (fun k=>spec_l2Vandermonde.l1.eq_2 _ _ _ _ _ _ k) ?_
  simp only [rdSS0,Int.toNat_natCast]
  refine ev_pos (by omega) (ev_pos (by omega) (ev_pos (by omega) ?_))
  refine ev_bind (spec_l1Power.ev (mod_byte _) j (by omega)) ?_
  refine ev_pos (by omega) (ev_pos (by omega) ?_)
  rw [inc (by omega),show pow ((i : Int) % 256) j=vanAt i j from rfl,filPart_set vanAt hi]
  exact spec_l2Vandermonde.ev_l1 n m hn hm i hi K d (j+1) (by omega)
theorem spec_l2Vandermonde.ev_l0 (n m : Nat) (hn : n≤1048576) (hm : m≤1048576) : ∀ (d i : Nat),i+d=n→Ev (fun k=>spec_l2Vandermonde.l0 k (n : Int) (i : Int) (filPart n m vanAt i 0)) (tab n m vanAt)
 | 0,i,hi=>by
  refine Ev.step (fun k=>spec_l2Vandermonde.l0.eq_2 _ _ _ k) ?_
  refine ev_neg (by omega) (ev_now ?_)
  rw [show i=n by omega,filPart_all]
 | d+1,i,hi=>by
  have hl:=filPart_length n m vanAt i 0
  have hr:=filPart_row (f:=vanAt) (m:=m) (i:=i) (j:=0) (show i < n by omega)
  have ih:=spec_l2Vandermonde.ev_l0 n m hn hm d (i+1) (by omega)
  refine Ev.step (fun k=>spec_l2Vandermonde.l0.eq_2 _ _ _ k) ?_
  simp only [rdSS0,Int.toNat_natCast]
  refine ev_pos (by omega) (ev_pos (by omega) (ev_pos (by omega) ?_))
  rw [hr]
  exact spec_l2Vandermonde.ev_l1 n m hn hm i (by omega) (by rw [inc (by omega)];exact ih) m 0 (by omega)
theorem spec_l2Vandermonde.ev (n m : Nat) (hn : n≤1048576) (hm : m≤1048576) : Ev (fun k=>spec_l2Vandermonde.f k (n : Int) (m : Int)) (tab n m vanAt):=by
 unfold spec_l2Vandermonde.f
 refine ev_bind (spec_l2Blank.ev n m (by omega) (by omega)) ?_
 have e : ((blankM n m).length : Int)=(n : Int):=by simp [blankM]
 rw [e,filPart_zero n m vanAt]
 exact spec_l2Vandermonde.ev_l0 n m hn hm n 0 (by omega)

theorem impl_vanRows.ev (n m : Nat) (hn : n≤1048576) (hm : m≤1048576) : Ev (fun k=>impl_vanRows.f k (n : Int) (m : Int)) (tab n m vanAt):=by
 unfold impl_vanRows.f
 refine impl_filled.ev n m vanAt hn hm (fun i hi j hj=>?_)
 unfold impl_vanRows.E
 exact impl_power.ev (mod_byte _) j (by omega)

def vanVal (n m : Int) : List (List Int) × Bool:=if (1≤n∧n≤16)∧1≤m∧m≤16 then (tab n.toNat m.toNat vanAt,true) else ([],false)
theorem spec_Vandermonde.ev (n m : Int) : Ev (fun q=>spec_Vandermonde.f q n m) (vanVal n m):=by
 unfold spec_Vandermonde.f vanVal
 simp only [spec_l1In.ev,Option.bind_some,decide_eq_true_eq]
 by_cases h : 1≤n∧n≤16
 ·refine ev_pos h ?_
  by_cases h2 : 1≤m∧m≤16
  ·refine ev_pos h2 ?_
   rw [if_pos ⟨h,h2⟩]
   obtain ⟨a,rfl⟩:=Int.eq_ofNat_of_zero_le (show 0≤n by omega)
   obtain ⟨b,rfl⟩:=Int.eq_ofNat_of_zero_le (show 0≤m by omega)
   exact ev_bind (spec_l2Vandermonde.ev a b (by omega) (by omega)) (ev_now rfl)
  ·exact ev_neg h2 (ev_now (if_neg (fun z=>h2 z.2)).symm)
 ·exact ev_neg h (ev_now (if_neg (fun z=>h z.1)).symm)

theorem impl_Vandermonde.ev (n m : Int) : Ev (fun q=>impl_Vandermonde.f q n m) (vanVal n m):=by
 unfold impl_Vandermonde.f vanVal
 simp only [impl_areSides.ev,Option.bind_some,decide_eq_true_eq]
 by_cases h : (1≤n∧n≤16)∧1≤m∧m≤16
 ·refine ev_pos h ?_
  rw [if_pos h]
  obtain ⟨a,rfl⟩:=Int.eq_ofNat_of_zero_le (show 0≤n by omega)
  obtain ⟨b,rfl⟩:=Int.eq_ofNat_of_zero_le (show 0≤m by omega)
  exact ev_bind (impl_vanRows.ev a b (by omega) (by omega)) (ev_now rfl)
 ·exact ev_neg h (ev_now (if_neg h).symm)

theorem laws_sameBytes.ev (l : List Int) : laws_sameBytes.f l l=some true:=by
 unfold laws_sameBytes.f
 rw [beq_self_eq_true]

theorem laws_sameMatrices.ev_l0 (m : List (List Int)) (hm : m.length≤1048576) : ∀ (d i : Nat),i+d=m.length→Ev (fun k=>laws_sameMatrices.l0 k (m.length : Int) (i : Int) m m) true
 | 0,i,hi=>by
  refine Ev.step (fun k=>laws_sameMatrices.l0.eq_2 _ _ _ _ k) ?_
  exact ev_neg (by omega) (ev_now rfl)
 | d+1,i,hi=>by
  refine Ev.step (fun k=>laws_sameMatrices.l0.eq_2 _ _ _ _ k) ?_
  simp only [laws_sameBytes.ev,Option.bind_some]
  refine ev_pos (by omega) (ev_pos (by omega) (ev_pos (by omega) (ev_pos (by omega) (ev_pos trivial ?_))))
  rw [inc (by omega)]
  exact laws_sameMatrices.ev_l0 m hm d (i+1) (by omega)
theorem laws_sameMatrices.ev (m : List (List Int)) (hm : m.length≤1048576) : Ev (fun k=>laws_sameMatrices.f k m m) true:=by
 unfold laws_sameMatrices.f
 exact ev_pos rfl (laws_sameMatrices.ev_l0 m hm m.length 0 (by omega))

theorem laws_numberOf.some_l0 (l : List Int) (hl : l.length≤9223372036854775807) : ∀ (n i : Nat) (x : Int),i+n=l.length→∃ t,Ev (fun k=>laws_numberOf.l0 k x l (l.length : Int) (i : Int)) t
 | 0,i,x,hi=>by
  refine ⟨x,Ev.step (fun k=>laws_numberOf.l0.eq_2 _ _ _ _ k) ?_⟩
  exact ev_neg (by omega) (ev_now rfl)
 | n+1,i,x,hi=>by
  obtain ⟨t,ht⟩:=laws_numberOf.some_l0 l hl n (i+1) (Int.tmod (wrap64 ((wrap64 (31*x))+(wrap64 (rd l (i : Int))))) 1000003) (by omega)
  refine ⟨t,Ev.step (fun k=>laws_numberOf.l0.eq_2 _ _ _ _ k) ?_⟩
  refine ev_pos (by omega) (ev_pos (by omega) (ev_pos (by omega) ?_))
  rw [show wrap64 ((i : Int)+1)=((i+1 : Nat) : Int) by rw [wrap_id (by omega) (by omega)];omega]
  exact ht
theorem laws_numberOf.some_ (l : List Int) (hl : l.length≤9223372036854775807) : ∃ t,Ev (fun k=>laws_numberOf.f k l) t:=laws_numberOf.some_l0 l hl l.length 0 0 (by omega)
theorem laws_numberOf.pos_l0 (l : List Int) (hl : l.length≤9223372036854775807) (hb : Bytes l) : ∀ (n i : Nat) (x : Int),i+n=l.length→0≤x→x < 1000003→∃ t,Ev (fun k=>laws_numberOf.l0 k x l (l.length : Int) (i : Int)) t∧0≤t∧t < 1000003
 | 0,i,x,hi,h0,h1=>by
  refine ⟨x,Ev.step (fun k=>laws_numberOf.l0.eq_2 _ _ _ _ k) ?_,h0,h1⟩
  exact ev_neg (by omega) (ev_now rfl)
 | n+1,i,x,hi,h0,h1=>by
  have hx:=bytes_rd hb (show i < l.length by omega)
  have e : wrap64 ((wrap64 (31*x))+(wrap64 (rd l (i : Int))))=31*x+rd l (i : Int):=by
   have h2:=hx.1
   have h3:=hx.2
   rw [wrap_id (i:=31*x) (by omega) (by omega),wrap_id (i:=rd l (i : Int)) (by omega) (by omega),wrap_id (by omega) (by omega)]
  obtain ⟨t,ht,h2,h3⟩:=laws_numberOf.pos_l0 l hl hb n (i+1) (Int.tmod (wrap64 ((wrap64 (31*x))+(wrap64 (rd l (i : Int))))) 1000003) (by omega) (by rw [e];have:=hx.1;exact Int.tmod_nonneg _ (by omega)) (Int.tmod_lt_of_pos _ (by decide))
  refine ⟨t,Ev.step (fun k=>laws_numberOf.l0.eq_2 _ _ _ _ k) ?_,h2,h3⟩
  refine ev_pos (by omega) (ev_pos (by omega) (ev_pos (by omega) ?_))
  rw [show wrap64 ((i : Int)+1)=((i+1 : Nat) : Int) by rw [wrap_id (by omega) (by omega)];omega]
  exact ht
theorem laws_numberOf.pos_ (l : List Int) (hl : l.length≤9223372036854775807) (hb : Bytes l) : ∃ t,Ev (fun k=>laws_numberOf.f k l) t∧0≤t∧t < 1000003:=laws_numberOf.pos_l0 l hl hb l.length 0 0 (by omega) (by decide) (by decide)

/-- Numbers from 0 on below n, rising. -/
def upTo (n : Nat) (l : List Int) : Prop:=(∀ x ∈ l,0≤x∧x < (n : Int))∧l.Pairwise (· < ·)
theorem upTo_nil (n : Nat) : upTo n []:=⟨(fun x hx=>by cases hx),List.Pairwise.nil⟩
theorem upTo_more {n m : Nat} {l : List Int} (h : upTo n l) (hm : n≤m) : upTo m l:=⟨fun x hx=>by have:=h.1 x hx;omega,h.2⟩
theorem upTo_snoc {n : Nat} {l : List Int} (h : upTo n l) : upTo (n+1) (l ++ [(n : Int)]):=by
 refine ⟨fun x hx=>?_,List.pairwise_append.2 ⟨h.2,List.pairwise_singleton _ _,fun x hx y hy=>?_⟩⟩
 ·rcases List.mem_append.1 hx with h2 | h2
  ·have:=h.1 x h2;omega
  ·simp at h2;omega
 ·simp at hy;subst hy
  exact (h.1 x hx).2
theorem upTo_take {n : Nat} {l : List Int} (h : upTo n l) (k : Nat) : upTo n (l.take k):=⟨fun x hx=>h.1 x (List.mem_of_mem_take hx),h.2.sublist (List.take_sublist k l)⟩
theorem upTo_wf {n : Nat} {l : List Int} (h : upTo n l) (hn : n≤1048576) : ∀ x ∈ l,(Lit.int .i64 x).wf=true:=by
 intro x hx
 have:=h.1 x hx
 show (IntKind.i64.min≤x && x≤IntKind.i64.max)=true
 rw [Bool.and_eq_true,decide_eq_true_eq,decide_eq_true_eq]
 exact ⟨show -9223372036854775808≤x by omega,show x≤9223372036854775807 by omega⟩
theorem upTo_rd {n : Nat} {l : List Int} (h : upTo n l) {j : Nat} (hj : j < l.length) : 0≤rd l (j : Int)∧rd l (j : Int) < (n : Int):=by
 rw [rd_get hj]
 exact h.1 _ (List.getElem_mem hj)
theorem upTo_lt {n : Nat} {l : List Int} (h : upTo n l) {i j : Nat} (hij : i < j) (hj : j < l.length) : rd l (i : Int) < rd l (j : Int):=by
 rw [rd_get hj,rd_get (by omega)]
 exact List.pairwise_iff_getElem.1 h.2 i j (by omega) hj hij
theorem upTo_rising {n : Nat} {l : List Int} (h : upTo n l) : rising l n=true:=by
 refine rising_yes fun j hj=>riseAt_yes ?_ ?_
 ·have:=upTo_rd h hj;omega
 ·by_cases e : j=0
  ·exact .inl e
  ·exact .inr (upTo_lt h (by omega) hj)
theorem upTo_inj {n : Nat} {l : List Int} (h : upTo n l) {i j : Nat} (hi : i < l.length) (hj : j < l.length) (e : rd l (i : Int)=rd l (j : Int)) : i=j:=by
 by_cases c : i=j
 ·exact c
 ·by_cases c2 : i < j
  ·have:=upTo_lt h c2 hj;omega
  ·have:=upTo_lt h (show j < i by omega) hi;omega
theorem upTo_len {n : Nat} {l : List Int} (h : upTo n l) : l.length≤n:=rising_len (upTo_rising h)
theorem spec_l1Cur_chosen.some_l0 {s : List Int} (hs : Bytes s) (n : Nat) (hn : n≤200) (many : Int) (hm : many≤1000 ∧ -1000≤many) : ∀ (d i : Nat) (o : List Int) (a z : Int),i+d=n→upTo i o→o.length≤i→0≤a→a+2*d≤4611686018427360000 →
  ∃ t b z',Ev (fun k=>spec_l1Cur_chosen.l0 k (n : Int) many o (i : Int) s a z) (t,b,z')∧upTo n t∧a≤b∧b≤a+2*d
 | 0,i,o,a,z,hi,ho,hl,h0,h1=>by
  refine ⟨o,a,z,?_,upTo_more ho (by omega),by omega,by omega⟩
  refine Ev.step (fun k=>spec_l1Cur_chosen.l0.eq_2 _ _ _ _ _ _ _ k) ?_
  refine ev_neg (by omega) ?_
  refine Ev.step (fun k=>spec_l1Cur_chosen.j1.eq_2 _ _ _ _ _ _ _ _ k) ?_
  exact ev_neg (by decide) (ev_now rfl)
 | d+1,i,o,a,z,hi,ho,hl,h0,h1=>by
  by_cases c : (o.length : Int) < many
  ·by_cases c2 : wrap64 ((n : Int) - (i : Int))≤wrap64 (many - (o.length : Int))
   ·obtain ⟨t,b,z',e,h2,h3,h4⟩:=spec_l1Cur_chosen.some_l0 hs n hn many hm d (i+1) (o ++ [(i : Int)]) a z (by omega) (upTo_snoc ho) (by rw [List.length_append];simp;omega) h0 (by omega)
    refine ⟨t,b,z',?_,h2,h3,by omega⟩
    refine Ev.step (fun k=>spec_l1Cur_chosen.l0.eq_2 _ _ _ _ _ _ _ k) ?_
    refine ev_pos (by omega) ?_
    rw [decide_eq_true c]
    refine Ev.step (fun k=>spec_l1Cur_chosen.j1.eq_2 _ _ _ _ _ _ _ _ k) ?_
    refine ev_pos rfl (ev_pos c2 (ev_pos (by omega) ?_))
    rw [inc (by omega)]
    exact e
   ·obtain ⟨x,b,z1,e1,hb0,hb1⟩:=spec_l1Cur_one.some_ hs (a:=a) (z:=z) (n:=2) h0 (by omega) (by decide)
    cases x with
    | true =>
     obtain ⟨t,b2,z',e,h2,h3,h4⟩:=spec_l1Cur_chosen.some_l0 hs n hn many hm d (i+1) (o ++ [(i : Int)]) b z1 (by omega) (upTo_snoc ho) (by rw [List.length_append];simp;omega) (by omega) (by omega)
     refine ⟨t,b2,z',?_,h2,by omega,by omega⟩
     refine Ev.step (fun k=>spec_l1Cur_chosen.l0.eq_2 _ _ _ _ _ _ _ k) ?_
     refine ev_pos (by omega) ?_
     rw [decide_eq_true c]
     refine Ev.step (fun k=>spec_l1Cur_chosen.j1.eq_2 _ _ _ _ _ _ _ _ k) ?_
     refine ev_pos rfl (ev_neg c2 ?_)
     rw [e1]
     simp only [Option.bind_some]
     refine ev_pos trivial (ev_pos (by omega) ?_)
     rw [inc (by omega)]
     exact e
    | false =>
     obtain ⟨t,b2,z',e,h2,h3,h4⟩:=spec_l1Cur_chosen.some_l0 hs n hn many hm d (i+1) o b z1 (by omega) (upTo_more ho (by omega)) (by omega) (by omega) (by omega)
     refine ⟨t,b2,z',?_,h2,by omega,by omega⟩
     refine Ev.step (fun k=>spec_l1Cur_chosen.l0.eq_2 _ _ _ _ _ _ _ k) ?_
     refine ev_pos (by omega) ?_
     rw [decide_eq_true c]
     refine Ev.step (fun k=>spec_l1Cur_chosen.j1.eq_2 _ _ _ _ _ _ _ _ k) ?_
     refine ev_pos rfl (ev_neg c2 ?_)
     rw [e1]
     simp only [Option.bind_some]
     refine ev_neg (by decide) ?_
     rw [inc (by omega)]
     exact e
  ·refine ⟨o,a,z,?_,upTo_more ho (by omega),by omega,by omega⟩
   refine Ev.step (fun k=>spec_l1Cur_chosen.l0.eq_2 _ _ _ _ _ _ _ k) ?_
   refine ev_pos (by omega) ?_
   rw [decide_eq_false c]
   refine Ev.step (fun k=>spec_l1Cur_chosen.j1.eq_2 _ _ _ _ _ _ _ _ k) ?_
   exact ev_neg (by decide) (ev_now rfl)
theorem spec_l1Cur_chosen.some_ {s : List Int} (hs : Bytes s) (n : Nat) (hn : n≤200) (many : Int) (hm : many≤1000 ∧ -1000≤many) {a z : Int} (h0 : 0≤a) (h1 : a≤4611686018427350000) : ∃ t b z',Ev (fun k=>spec_l1Cur_chosen.f k s a z (n : Int) many) (t,b,z')∧upTo n t∧a≤b∧b≤a+400:=by
 obtain ⟨t,b,z',e,h2,h3,h4⟩:=spec_l1Cur_chosen.some_l0 hs n hn many hm n 0 [] a z (by omega) (upTo_nil 0) (by simp) h0 (by omega)
 exact ⟨t,b,z',e,h2,h3,by omega⟩

theorem wrap_id' {i : Int} (h : -9223372036854775808≤i) (h1 : i < 9223372036854775808) : wrap64 i=i:=by unfold wrap64;omega
theorem laws_someOf.some_l0 (n least : Nat) (more : List Int) (hn : n≤1000) (hl : least≤n) : ∀ (d i : Nat) (o : List Int),i+d=n→upTo i o→o.length≤i→least≤o.length+d →
  ∃ t,Ev (fun k=>laws_someOf.l0 k (n : Int) (least : Int) more o (i : Int)) t∧upTo n t∧least≤t.length
 | 0,i,o,hi,ho,hol,hc=>by
  refine ⟨o,?_,upTo_more ho (by omega),by omega⟩
  refine Ev.step (fun k=>laws_someOf.l0.eq_2 _ _ _ _ _ k) ?_
  exact ev_neg (by omega) (ev_now rfl)
 | d+1,i,o,hi,ho,hol,hc=>by
  have w1 : wrap64 ((n : Int) - (i : Int))=(n : Int) - (i : Int):=wrap_id' (by omega) (by omega)
  have w2 : wrap64 ((least : Int) - (o.length : Int))=(least : Int) - (o.length : Int):=wrap_id' (by omega) (by omega)
  have hs : (o ++ [(i : Int)]).length=o.length+1:=by simp
  have yes : ∃ t,Ev (fun k=>laws_someOf.l0 k (n : Int) (least : Int) more (o ++ [(i : Int)]) (wrap64 ((i : Int)+1))) t∧upTo n t∧least≤t.length:=by
   rw [inc (by omega)]
   exact laws_someOf.some_l0 n least more hn hl d (i+1) (o ++ [(i : Int)]) (by omega) (upTo_snoc ho) (by omega) (by omega)
  by_cases c2 : (n : Int) - (i : Int)≤(least : Int) - (o.length : Int)
  ·obtain ⟨t,e,h2,h3⟩:=yes
   refine ⟨t,?_,h2,h3⟩
   refine Ev.step (fun k=>laws_someOf.l0.eq_2 _ _ _ _ _ k) ?_
   rw [w1,w2]
   refine ev_pos (by omega) ?_
   by_cases c1 : (i : Int) < (more.length : Int)
   ·exact ev_pos c1 (ev_pos (by omega) (ev_pos c2 (ev_pos (by omega) e)))
   ·exact ev_neg c1 (ev_pos c2 (ev_pos (by omega) e))
  ·by_cases c1 : (i : Int) < (more.length : Int)
   ·by_cases c3 : Int.tmod (wrap64 (rd more (i : Int))) 2=0
    ·obtain ⟨t,e,h2,h3⟩:=yes
     refine ⟨t,?_,h2,h3⟩
     refine Ev.step (fun k=>laws_someOf.l0.eq_2 _ _ _ _ _ k) ?_
     rw [w1,w2]
     exact ev_pos (by omega) (ev_pos c1 (ev_pos (by omega) (ev_neg c2 (ev_pos c3 (ev_pos (by omega) e)))))
    ·obtain ⟨t,e,h2,h3⟩:=laws_someOf.some_l0 n least more hn hl d (i+1) o (by omega) (upTo_more ho (by omega)) (by omega) (by omega)
     refine ⟨t,?_,h2,h3⟩
     refine Ev.step (fun k=>laws_someOf.l0.eq_2 _ _ _ _ _ k) ?_
     rw [w1,w2]
     refine ev_pos (by omega) (ev_pos c1 (ev_pos (by omega) (ev_neg c2 (ev_neg c3 ?_))))
     rw [inc (by omega)]
     exact e
   ·obtain ⟨t,e,h2,h3⟩:=yes
    refine ⟨t,?_,h2,h3⟩
    refine Ev.step (fun k=>laws_someOf.l0.eq_2 _ _ _ _ _ k) ?_
    rw [w1,w2]
    exact ev_pos (by omega) (ev_neg c1 (ev_neg c2 (ev_pos (by decide) (ev_pos (by omega) e))))
theorem laws_someOf.some_ (n least : Nat) (more : List Int) (hn : n≤1000) (hl : least≤n) : ∃ t,Ev (fun k=>laws_someOf.f k (n : Int) (least : Int) more) t∧upTo n t∧least≤t.length :=
 laws_someOf.some_l0 n least more hn hl n 0 [] (by omega) (upTo_nil 0) (by simp) (by simpa using hl)

theorem impl_GoodMatrix.ev (l : List (List Int)) : impl_GoodMatrix.f l=some (goodM l):=rfl

theorem impl_isIncreasing.ev_l0 (l : List Int) (n : Nat) (hn : n≤16) (hl : l.length≤1048576) (hw : ∀ x ∈ l,(Lit.int .i64 x).wf=true) : ∀ (d i : Nat),i+d=l.length→(∀ j,j < i→riseAt l n j=true)→Ev (fun k=>impl_isIncreasing.l0 k l (n : Int) l (l.length : Int) (i : Int)) (rising l n)
 | 0,i,hi,ha=>by
  refine Ev.step (fun k=>impl_isIncreasing.l0.eq_2 _ _ _ _ _ k) ?_
  exact ev_neg (by omega) (ev_now (rising_yes (fun j hj=>ha j (by omega))).symm)
 | d+1,i,hi,ha=>by
  have e : wrap64 ((n : Int) - 1)=(n : Int) - 1:=by unfold wrap64;omega
  refine Ev.step (fun k=>impl_isIncreasing.l0.eq_2 _ _ _ _ _ k) ?_
  refine ev_pos (by omega) (ev_pos (by omega) (ev_pos (by omega) ?_))
  simp only [impl_within.ev,Option.bind_some,decide_eq_true_eq,e]
  by_cases h : 0≤rd l (i : Int)∧rd l (i : Int)≤(n : Int) - 1
  ·refine ev_pos h ?_
   by_cases h0 : i=0
   ·subst h0
    refine ev_neg (by omega) ?_
    rw [inc (by omega)]
    refine impl_isIncreasing.ev_l0 l n hn hl hw d 1 (by omega) (fun j hj=>?_)
    have : j=0:=by omega
    subst this
    exact riseAt_yes h (.inl rfl)
   ·have e2 : wrap64 ((i : Int) - 1)=((i - 1 : Nat) : Int):=by unfold wrap64;omega
    refine ev_pos (by omega) ?_
    rw [e2]
    refine ev_pos (by omega) (ev_pos (by omega) ?_)
    by_cases h2 : rd l (i : Int)≤rd l ((i - 1 : Nat) : Int)
    ·exact ev_pos h2 (ev_now (rising_no (i:=i) (by omega) (riseAt_no (fun z=>by rcases z.2 with z | z <;> omega))).symm)
    ·refine ev_neg h2 ?_
     rw [inc (by omega)]
     refine impl_isIncreasing.ev_l0 l n hn hl hw d (i+1) (by omega) (fun j hj=>?_)
     by_cases ej : j=i
     ·subst ej;exact riseAt_yes h (.inr (by omega))
     ·exact ha j (by omega)
  ·exact ev_neg h (ev_now (rising_no (i:=i) (by omega) (riseAt_no (fun z=>h z.1))).symm)
theorem impl_isIncreasing.ev (l : List Int) (n : Nat) (hn : n≤16) (hl : l.length≤1048576) (hw : ∀ x ∈ l,(Lit.int .i64 x).wf=true) : Ev (fun k=>impl_isIncreasing.f k l (n : Int)) (rising l n):=by
 unfold impl_isIncreasing.f
 exact impl_isIncreasing.ev_l0 l n hn hl hw l.length 0 (by omega) (fun j hj=>absurd hj (by omega))

theorem goodM_first {l : List (List Int)} (h1 : 1≤l.length∧l.length≤16) (h2 : 1≤(l.getD 0 []).length∧(l.getD 0 []).length≤16) : goodM l = !((List.range l.length).any fun i=>(l.getD i []).length != (l.getD 0 []).length):=by
 unfold goodM
 rw [decide_eq_true (show 1≤l.length∧l.length≤16∧1≤(l.getD 0 []).length∧(l.getD 0 []).length≤16 from ⟨h1.1,h1.2,h2⟩),Bool.true_and]
theorem goodM_no {l : List (List Int)} (h : ¬ (1≤l.length∧l.length≤16∧1≤(l.getD 0 []).length∧(l.getD 0 []).length≤16)) : goodM l=false:=by
 unfold goodM
 rw [decide_eq_false h,Bool.false_and]
theorem spec_GoodMatrix.ev_l0 (l : List (List Int)) (h1 : 1≤l.length∧l.length≤16) (h2 : 1≤(l.getD 0 []).length∧(l.getD 0 []).length≤16) : ∀ (n i : Nat),i+n=l.length→(∀ j,j < i→(l.getD j []).length=(l.getD 0 []).length) →
  Ev (fun k=>spec_GoodMatrix.l0 k l (l.length : Int) (i : Int) l) (goodM l)
 | 0,i,hi,ha=>by
  refine Ev.step (fun k=>spec_GoodMatrix.l0.eq_2 _ _ _ _ k) ?_
  refine ev_neg (by omega) (ev_now ?_)
  rw [goodM_first h1 h2]
  have : ((List.range l.length).any fun i=>(l.getD i []).length != (l.getD 0 []).length)=false:=by
   rw [List.any_eq_false]
   intro x hx
   have hx' : x < l.length:=by simpa using hx
   simp only [ha x (by omega),bne_self_eq_false]
   simp
  rw [this];rfl
 | n+1,i,hi,ha=>by
  refine Ev.step (fun k=>spec_GoodMatrix.l0.eq_2 _ _ _ _ k) ?_
  refine ev_pos (by omega) (ev_pos (by omega) (ev_pos (by omega) (ev_pos (by omega) ?_)))
  simp only [rdSS0,Int.toNat_natCast,Int.toNat_zero]
  by_cases h : (l.getD i []).length=(l.getD 0 []).length
  ·refine ev_pos (by omega) ?_
   rw [inc (by omega)]
   exact spec_GoodMatrix.ev_l0 l h1 h2 n (i+1) (by omega) (fun j hj=>by by_cases e : j=i;exact e ▸ h;exact ha j (by omega))
  ·refine ev_neg (by omega) (ev_now ?_)
   rw [goodM_first h1 h2]
   have : ((List.range l.length).any fun i=>(l.getD i []).length != (l.getD 0 []).length)=true:=List.any_eq_true.2 ⟨i,by simp;omega,by simpa using h⟩
   rw [this];rfl
theorem spec_GoodMatrix.ev (l : List (List Int)) : Ev (fun k=>spec_GoodMatrix.f k l) (goodM l):=by
 unfold spec_GoodMatrix.f
 simp only [spec_l1In.ev,Option.bind_some,decide_eq_true_eq,rdSS0,Int.toNat_zero]
 by_cases h1 : 1≤(l.length : Int)∧(l.length : Int)≤16
 ·refine ev_pos h1 (ev_pos (by omega) ?_)
  by_cases h2 : 1≤((l.getD 0 []).length : Int)∧((l.getD 0 []).length : Int)≤16
  ·rw [decide_eq_true h2]
   refine Ev.step (fun k=>spec_GoodMatrix.j0.eq_2 _ _ k) (ev_neg (by simp) ?_)
   exact spec_GoodMatrix.ev_l0 l (by omega) (by omega) l.length 0 (by omega) (fun j hj=>absurd hj (by omega))
  ·rw [decide_eq_false h2]
   refine Ev.step (fun k=>spec_GoodMatrix.j0.eq_2 _ _ k) (ev_pos rfl (ev_now ?_))
   exact (goodM_no (by omega)).symm
 ·refine ev_neg h1 ?_
  refine Ev.step (fun k=>spec_GoodMatrix.j0.eq_2 _ _ k) (ev_pos rfl (ev_now ?_))
  exact (goodM_no (by omega)).symm

theorem spec_l1Some.ev_l0 (l : List Int) (n : Nat) (hn : n≤16) (hl : l.length≤1048576) (hw : ∀ x ∈ l,(Lit.int .i64 x).wf=true) : ∀ (d i : Nat),i+d=l.length→(∀ j,j < i→riseAt l n j=true)→Ev (fun k=>spec_l1Some.l0 k l (n : Int) l (l.length : Int) (i : Int)) (rising l n)
 | 0,i,hi,ha=>by
  refine Ev.step (fun k=>spec_l1Some.l0.eq_2 _ _ _ _ _ k) ?_
  exact ev_neg (by omega) (ev_now (rising_yes (fun j hj=>ha j (by omega))).symm)
 | d+1,i,hi,ha=>by
  have e : wrap64 ((n : Int) - 1)=(n : Int) - 1:=by unfold wrap64;omega
  refine Ev.step (fun k=>spec_l1Some.l0.eq_2 _ _ _ _ _ k) ?_
  refine ev_pos (by omega) (ev_pos (by omega) (ev_pos (by omega) ?_))
  simp only [spec_l1In.ev,Option.bind_some,decide_eq_true_eq,e]
  by_cases h : 0≤rd l (i : Int)∧rd l (i : Int)≤(n : Int) - 1
  ·refine ev_pos h ?_
   by_cases h0 : i=0
   ·subst h0
    refine ev_neg (by omega) ?_
    rw [inc (by omega)]
    refine spec_l1Some.ev_l0 l n hn hl hw d 1 (by omega) (fun j hj=>?_)
    have : j=0:=by omega
    subst this
    exact riseAt_yes h (.inl rfl)
   ·have e2 : wrap64 ((i : Int) - 1)=((i - 1 : Nat) : Int):=by unfold wrap64;omega
    refine ev_pos (by omega) ?_
    rw [e2]
    refine ev_pos (by omega) (ev_pos (by omega) ?_)
    by_cases h2 : rd l ((i - 1 : Nat) : Int) ≥ rd l (i : Int)
    ·exact ev_pos h2 (ev_now (rising_no (i:=i) (by omega) (riseAt_no (fun z=>by rcases z.2 with z | z <;> omega))).symm)
    ·refine ev_neg h2 ?_
     rw [inc (by omega)]
     refine spec_l1Some.ev_l0 l n hn hl hw d (i+1) (by omega) (fun j hj=>?_)
     by_cases ej : j=i
     ·subst ej;exact riseAt_yes h (.inr (by omega))
     ·exact ha j (by omega)
  ·exact ev_neg h (ev_now (rising_no (i:=i) (by omega) (riseAt_no (fun z=>h z.1))).symm)
theorem spec_l1Some.ev (l : List Int) (n : Nat) (hn : n≤16) (hl : l.length≤1048576) (hw : ∀ x ∈ l,(Lit.int .i64 x).wf=true) : Ev (fun k=>spec_l1Some.f k l (n : Int)) (rising l n):=by
 unfold spec_l1Some.f
 exact spec_l1Some.ev_l0 l n hn hl hw l.length 0 (by omega) (fun j hj=>absurd hj (by omega))

theorem spec_l2Part.ev_l1 (m : List (List Int)) (c : List Int) (hg : goodM m=true) (hc : c.length≤1048576) (hcn : ∀ j,j < c.length→0≤rd c (j : Int)∧rd c (j : Int) < ((m.getD 0 []).length : Int)) (r : List Int) (i a : Nat) (ha : a < m.length) (out : List (List Int)) (ho : out.length < 5864062014805) {R : List (List Int)}
  (K : Ev (fun k=>spec_l2Part.l0 k c r (r.length : Int) (wrap64 ((i : Int)+1)) m (out ++ [partRow m c a])) R) : ∀ (d j : Nat) (o : List Int),j+d=c.length→o=(partRow m c a).take j →
  Ev (fun k=>spec_l2Part.l1 k c (a : Int) o r (r.length : Int) (i : Int) c (c.length : Int) (j : Int) m out) R
 | 0,j,o,hj,hoj=>by
  refine Ev.step (fun k=>spec_l2Part.l1.eq_2 _ _ _ _ _ _ _ _ _ _ _ k) ?_
  refine ev_neg (by omega) (ev_pos ho ?_)
  rw [hoj,List.take_of_length_le (by rw [partRow_length];omega)]
  exact K
 | d+1,j,o,hj,hoj=>by
  have hf:=goodM_iff hg
  have e:=hf.2.2 a ha
  have h2:=hcn j (by omega)
  have hol : o.length=j:=by rw [hoj,List.length_take,partRow_length];omega
  refine Ev.step (fun k=>spec_l2Part.l1.eq_2 _ _ _ _ _ _ _ _ _ _ _ k) ?_
  simp only [rdSS0,Int.toNat_natCast]
  refine ev_pos (by omega) (ev_pos (by omega) (ev_pos (by omega) (ev_pos (by omega) (ev_pos (by omega) (ev_pos h2.1 (ev_pos (by omega) (ev_pos (by omega) ?_)))))))
  rw [inc (by omega)]
  exact spec_l2Part.ev_l1 m c hg hc hcn r i a ha out ho K d (j+1) _ (by omega) (by rw [partRow_succ m c a j (by omega),← hoj])
theorem spec_l2Part.ev_l0 (m : List (List Int)) (c r : List Int) (hg : goodM m=true) (hc : c.length≤1048576) (hr : r.length≤1048576) (hcn : ∀ j,j < c.length→0≤rd c (j : Int)∧rd c (j : Int) < ((m.getD 0 []).length : Int)) (hrn : ∀ j,j < r.length→0≤rd r (j : Int)∧rd r (j : Int) < (m.length : Int)) : ∀ (d i : Nat) (out : List (List Int)),i+d=r.length→out=(partM m r c).take i →
  Ev (fun k=>spec_l2Part.l0 k c r (r.length : Int) (i : Int) m out) (partM m r c)
 | 0,i,out,hi,ho=>by
  refine Ev.step (fun k=>spec_l2Part.l0.eq_2 _ _ _ _ _ _ k) ?_
  refine ev_neg (by omega) (ev_now ?_)
  rw [ho,List.take_of_length_le (by rw [partM_length];omega)]
 | d+1,i,out,hi,ho=>by
  have h2:=hrn i (by omega)
  have hol : out.length=i:=by rw [ho,List.length_take,partM_length];omega
  obtain ⟨a,ha⟩:=Int.eq_ofNat_of_zero_le h2.1
  refine Ev.step (fun k=>spec_l2Part.l0.eq_2 _ _ _ _ _ _ k) ?_
  refine ev_pos (by omega) (ev_pos (by omega) (ev_pos (by omega) ?_))
  have ih:=spec_l2Part.ev_l0 m c r hg hc hr hcn hrn d (i+1) (out ++ [partRow m c a]) (by omega) (by rw [partM_succ m r c i (by omega),← ho,ha,Int.toNat_natCast])
  rw [ha]
  exact spec_l2Part.ev_l1 m c hg hc hcn r i a (by omega) out (by omega) (by rw [inc (by omega)];exact ih) c.length 0 [] (by omega) rfl
theorem spec_l2Part.ev (m : List (List Int)) (r c : List Int) (hg : goodM m=true) (hc : c.length≤1048576) (hr : r.length≤1048576) (hcn : ∀ j,j < c.length→0≤rd c (j : Int)∧rd c (j : Int) < ((m.getD 0 []).length : Int)) (hrn : ∀ j,j < r.length→0≤rd r (j : Int)∧rd r (j : Int) < (m.length : Int)) : Ev (fun k=>spec_l2Part.f k m r c) (partM m r c):=by
 unfold spec_l2Part.f
 exact spec_l2Part.ev_l0 m c r hg hc hr hcn hrn r.length 0 [] (by omega) rfl

def partVal (m : List (List Int)) (r c : List Int) : List (List Int) × Bool:=if goodM m=true∧rising r m.length=true∧rising c (m.getD 0 []).length=true∧r.length ≠ 0∧c.length ≠ 0 then (partM m r c,true) else ([],false)
theorem partVal_no {m : List (List Int)} {r c : List Int} (h : ¬ (goodM m=true∧rising r m.length=true∧rising c (m.getD 0 []).length=true∧r.length ≠ 0∧c.length ≠ 0)) : partVal m r c=([],false):=if_neg h
theorem spec_PartOf.ev (m : List (List Int)) (r c : List Int) (hr : r.length≤1048576) (hc : c.length≤1048576) (wr : ∀ x ∈ r,(Lit.int .i64 x).wf=true) (wc : ∀ x ∈ c,(Lit.int .i64 x).wf=true) : Ev (fun k=>spec_PartOf.f k m r c) (partVal m r c):=by
 unfold spec_PartOf.f
 refine ev_bind (spec_GoodMatrix.ev m) ?_
 by_cases h : goodM m=true
 ·have hf:=goodM_iff h
  refine ev_pos h (ev_bind (spec_l1Some.ev r m.length (by omega) hr wr) ?_)
  by_cases h1 : rising r m.length=true
  ·refine ev_pos h1 (ev_pos (by omega) ?_)
   simp only [rdSS0,Int.toNat_zero]
   refine ev_bind (spec_l1Some.ev c _ (by omega) hc wc) ?_
   by_cases h2 : rising c (m.getD 0 []).length=true
   ·refine ev_pos h2 ?_
    by_cases h3 : r.length=0
    ·exact ev_pos (by omega) (ev_now (partVal_no (fun z=>z.2.2.2.1 h3)).symm)
    ·refine ev_neg (by omega) ?_
     by_cases h4 : c.length=0
     ·exact ev_pos (by omega) (ev_now (partVal_no (fun z=>z.2.2.2.2 h4)).symm)
     ·refine ev_neg (by omega) (ev_bind (spec_l2Part.ev m r c h hc hr (rising_in h2) (rising_in h1)) (ev_now ?_))
      exact (if_pos ⟨h,h1,h2,h3,h4⟩).symm
   ·exact ev_neg h2 (ev_now (partVal_no (fun z=>h2 z.2.2.1)).symm)
  ·exact ev_neg h1 (ev_now (partVal_no (fun z=>h1 z.2.1)).symm)
 ·exact ev_neg h (ev_now (partVal_no (fun z=>h z.1)).symm)

theorem impl_PartOf.ev_l1 (m : List (List Int)) (c : List Int) (hg : goodM m=true) (hc : c.length≤1048576) (hcn : ∀ j,j < c.length→0≤rd c (j : Int)∧rd c (j : Int) < ((m.getD 0 []).length : Int)) (r : List Int) (i a : Nat) (ha : a < m.length) (out : List (List Int)) (ho : out.length < 5864062014805) {R : List (List Int) × Bool}
  (K : Ev (fun k=>impl_PartOf.l0 k c r (r.length : Int) (wrap64 ((i : Int)+1)) m (out ++ [partRow m c a])) R) : ∀ (d j : Nat) (o : List Int),j+d=c.length→o=(partRow m c a).take j →
  Ev (fun k=>impl_PartOf.l1 k c (a : Int) o r (r.length : Int) (i : Int) c (c.length : Int) (j : Int) m out) R
 | 0,j,o,hj,hoj=>by
  refine Ev.step (fun k=>impl_PartOf.l1.eq_2 _ _ _ _ _ _ _ _ _ _ _ k) ?_
  refine ev_neg (by omega) (ev_pos ho ?_)
  rw [hoj,List.take_of_length_le (by rw [partRow_length];omega)]
  exact K
 | d+1,j,o,hj,hoj=>by
  have hf:=goodM_iff hg
  have e:=hf.2.2 a ha
  have h2:=hcn j (by omega)
  have hol : o.length=j:=by rw [hoj,List.length_take,partRow_length];omega
  refine Ev.step (fun k=>impl_PartOf.l1.eq_2 _ _ _ _ _ _ _ _ _ _ _ k) ?_
  simp only [rdSS0,Int.toNat_natCast]
  refine ev_pos (by omega) (ev_pos (by omega) (ev_pos (by omega) (ev_pos (by omega) (ev_pos (by omega) (ev_pos h2.1 (ev_pos (by omega) (ev_pos (by omega) ?_)))))))
  rw [inc (by omega)]
  exact impl_PartOf.ev_l1 m c hg hc hcn r i a ha out ho K d (j+1) _ (by omega) (by rw [partRow_succ m c a j (by omega),← hoj])
theorem impl_PartOf.ev_l0 (m : List (List Int)) (c r : List Int) (hg : goodM m=true) (hc : c.length≤1048576) (hr : r.length≤1048576) (hcn : ∀ j,j < c.length→0≤rd c (j : Int)∧rd c (j : Int) < ((m.getD 0 []).length : Int)) (hrn : ∀ j,j < r.length→0≤rd r (j : Int)∧rd r (j : Int) < (m.length : Int)) : ∀ (d i : Nat) (out : List (List Int)),i+d=r.length→out=(partM m r c).take i →
  Ev (fun k=>impl_PartOf.l0 k c r (r.length : Int) (i : Int) m out) (partM m r c,true)
 | 0,i,out,hi,ho=>by
  refine Ev.step (fun k=>impl_PartOf.l0.eq_2 _ _ _ _ _ _ k) ?_
  refine ev_neg (by omega) (ev_now ?_)
  rw [ho,List.take_of_length_le (by rw [partM_length];omega)]
 | d+1,i,out,hi,ho=>by
  have h2:=hrn i (by omega)
  have hol : out.length=i:=by rw [ho,List.length_take,partM_length];omega
  obtain ⟨a,ha⟩:=Int.eq_ofNat_of_zero_le h2.1
  refine Ev.step (fun k=>impl_PartOf.l0.eq_2 _ _ _ _ _ _ k) ?_
  refine ev_pos (by omega) (ev_pos (by omega) (ev_pos (by omega) ?_))
  have ih:=impl_PartOf.ev_l0 m c r hg hc hr hcn hrn d (i+1) (out ++ [partRow m c a]) (by omega) (by rw [partM_succ m r c i (by omega),← ho,ha,Int.toNat_natCast])
  rw [ha]
  exact impl_PartOf.ev_l1 m c hg hc hcn r i a (by omega) out (by omega) (by rw [inc (by omega)];exact ih) c.length 0 [] (by omega) rfl
theorem impl_PartOf.ev_no (r c : List Int) (m : List (List Int)) (h : ¬ (goodM m=true∧rising r m.length=true∧rising c (m.getD 0 []).length=true∧r.length ≠ 0∧c.length ≠ 0)) : Ev (fun k=>impl_PartOf.j0 k r c true m) (partVal m r c) :=
 Ev.step (fun k=>impl_PartOf.j0.eq_2 _ _ _ _ k) (ev_pos rfl (ev_now (partVal_no h).symm))
theorem impl_PartOf.ev (m : List (List Int)) (r c : List Int) (hr : r.length≤1048576) (hc : c.length≤1048576) (wr : ∀ x ∈ r,(Lit.int .i64 x).wf=true) (wc : ∀ x ∈ c,(Lit.int .i64 x).wf=true) : Ev (fun k=>impl_PartOf.f k m r c) (partVal m r c):=by
 unfold impl_PartOf.f
 simp only [impl_GoodMatrix.ev,Option.bind_some]
 by_cases h : goodM m=true
 ·have hf:=goodM_iff h
  refine ev_pos h ?_
  by_cases h3 : r.length=0
  ·exact ev_pos (by omega) (impl_PartOf.ev_no _ _ _ (fun z=>z.2.2.2.1 h3))
  refine ev_neg (by omega) ?_
  by_cases h4 : c.length=0
  ·exact ev_pos (by omega) (impl_PartOf.ev_no _ _ _ (fun z=>z.2.2.2.2 h4))
  refine ev_neg (by omega) (ev_bind (impl_isIncreasing.ev r m.length (by omega) hr wr) ?_)
  by_cases h1 : rising r m.length=true
  ·refine ev_pos h1 (ev_pos (by omega) ?_)
   simp only [rdSS0,Int.toNat_zero]
   refine ev_bind (impl_isIncreasing.ev c _ (by omega) hc wc) ?_
   by_cases h2 : rising c (m.getD 0 []).length=true
   ·rw [h2]
    refine Ev.step (fun k=>impl_PartOf.j0.eq_2 _ _ _ _ k) (ev_neg (by simp) ?_)
    refine ev_eq (impl_PartOf.ev_l0 m c r h hc hr (rising_in h2) (rising_in h1) r.length 0 [] (by omega) rfl) ?_
    exact (if_pos ⟨h,h1,h2,h3,h4⟩).symm
   ·rw [Bool.eq_false_iff.mpr h2]
    exact impl_PartOf.ev_no _ _ _ (fun z=>h2 z.2.2.1)
  ·exact ev_neg h1 (impl_PartOf.ev_no _ _ _ (fun z=>h1 z.2.1))
 ·exact ev_neg h (impl_PartOf.ev_no _ _ _ (fun z=>h z.1))

theorem impl_added.ev_l0 (v w : List Int) (hv : Bytes v) (hw : Bytes w) (hl : v.length=w.length) (hs : v.length < 140737488355328) : ∀ (n i : Nat) (o : List Int),i+n=v.length→o=(addV v w).take i →
  Ev (fun k=>impl_added.l0 k w o v (v.length : Int) (i : Int)) (addV v w)
 | 0,i,o,hi,ho=>by
  refine Ev.step (fun k=>impl_added.l0.eq_2 _ _ _ _ _ k) ?_
  refine ev_neg (by omega) (ev_now ?_)
  subst ho
  rw [List.take_of_length_le (by rw [addV_length];omega)]
 | n+1,i,o,hi,ho=>by
  have hz:=addV_length v w
  have hlen : o.length=i:=by rw [ho,List.length_take,hz];omega
  refine Ev.step (fun k=>impl_added.l0.eq_2 _ _ _ _ _ k) ?_
  refine ev_pos (by omega) (ev_pos (by omega) (ev_pos (by omega) (ev_pos (by omega) (ev_pos (by omega) ?_))))
  rw [inc (by omega),xor_u8 (bytes_rd hv (by omega)) (bytes_rd hw (by omega)),rd_get (by omega),rd_get (by omega)]
  refine impl_added.ev_l0 v w hv hw hl hs n (i+1) _ (by omega) ?_
  rw [List.take_succ_eq_append_getElem (by omega),← ho]
  simp [addV]
theorem impl_added.ev {v w : List Int} (hv : Bytes v) (hw : Bytes w) (hl : v.length=w.length) (hs : v.length < 140737488355328) : Ev (fun k=>impl_added.f k v w) (addV v w):=by
 unfold impl_added.f
 exact impl_added.ev_l0 v w hv hw hl hs v.length 0 [] (by omega) rfl

theorem impl_scaled.ev_l0 (a : Int) (ha : Byte a) (v : List Int) (hv : Bytes v) (hs : v.length < 140737488355328) : ∀ (n i : Nat) (o : List Int),i+n=v.length→o=(scale a v).take i →
  Ev (fun k=>impl_scaled.l0 k a o v (v.length : Int) (i : Int)) (scale a v)
 | 0,i,o,hi,ho=>by
  refine Ev.step (fun k=>impl_scaled.l0.eq_2 _ _ _ _ _ k) ?_
  refine ev_neg (by omega) (ev_now ?_)
  subst ho
  rw [List.take_of_length_le (by rw [scale_length];omega)]
 | n+1,i,o,hi,ho=>by
  have hz:=scale_length a v
  have hlen : o.length=i:=by rw [ho,List.length_take,hz];omega
  refine Ev.step (fun k=>impl_scaled.l0.eq_2 _ _ _ _ _ k) ?_
  refine ev_pos (by omega) (ev_pos (by omega) (ev_pos (by omega) ?_))
  refine ev_bind (impl_Times.ev ha (bytes_rd hv (by omega))) ?_
  refine ev_pos (by omega) ?_
  rw [inc (by omega),rd_get (by omega)]
  refine impl_scaled.ev_l0 a ha v hv hs n (i+1) _ (by omega) ?_
  rw [List.take_succ_eq_append_getElem (by omega),← ho]
  simp [scale]
theorem impl_scaled.ev {a : Int} (ha : Byte a) {v : List Int} (hv : Bytes v) (hs : v.length < 140737488355328) : Ev (fun k=>impl_scaled.f k a v) (scale a v):=by
 unfold impl_scaled.f
 exact impl_scaled.ev_l0 a ha v hv hs v.length 0 [] (by omega) rfl

theorem impl_Inverse.ev {a : Int} (ha : Byte a) : Ev (fun k=>impl_Inverse.f k a) (inv a):=by
 unfold impl_Inverse.f
 exact ev_bind (impl_power.ev ha 254 (by decide)) (ev_now (inv_pow a).symm)

theorem impl_inverseOf.ev {l : List (List Int)} (hs : sqN l=true) : impl_inverseOf.f l=some (invM l):=by
 unfold impl_inverseOf.f
 rw [if_pos hs]

theorem impl_InverseOf.ev (l : List (List Int)) (hb : matBytes l) : impl_InverseOf.f l=some (invVal l):=by
 unfold impl_InverseOf.f invVal
 simp only [impl_GoodMatrix.ev,Option.bind_some]
 by_cases h : goodM l=true
 ·have h1:=(goodM_iff h).1.1
  rw [if_pos h,if_pos (by omega)]
  by_cases e : l.length=(l.getD 0 []).length
  ·rw [if_pos (show goodM l=true∧l.length=(l.getD 0 []).length from ⟨h,e⟩)]
   refine (if_pos (by rw [rdSS0,Int.toNat_zero];omega)).trans ?_
   rw [impl_inverseOf.ev (sqN_good h hb e)]
   rfl
  ·rw [if_neg (show ¬ (goodM l=true∧l.length=(l.getD 0 []).length) from fun z=>e z.2)]
   exact if_neg (by rw [rdSS0,Int.toNat_zero];omega)
 ·rw [if_neg h,if_neg (fun z=>h z.1)]

theorem impl_rankOf.ev {l : List (List Int)} (h : 1≤l.length) (hs : sqM l=true) : impl_rankOf.f l=some (((rowI.red l (l.getD 0 []).length).2 : Nat) : Int):=by
 unfold impl_rankOf.f
 rw [if_neg (by omega),if_pos hs]

theorem impl_RankOf.ev (l : List (List Int)) (hb : matBytes l) : impl_RankOf.f l=some (rankVal l):=by
 unfold impl_RankOf.f rankVal
 simp only [impl_GoodMatrix.ev,Option.bind_some]
 by_cases h : goodM l=true
 ·rw [if_pos h,if_pos h,impl_rankOf.ev (goodM_iff h).1.1 (sqM_good h hb)]
  rfl
 ·rw [if_neg h,if_neg h]

theorem spec_l1Cur_byte.some_ {s : List Int} (hs : Bytes s) {a z : Int} (h0 : 0≤a) (h1 : a≤4611686018427386000) : ∃ x b z',spec_l1Cur_byte.f s a z=some (x,b,z')∧Byte x∧a≤b∧b≤a+4:=by
 unfold spec_l1Cur_byte.f
 obtain ⟨x,b,z1,e,hb0,hb1⟩:=spec_l1Cur_one.some_ hs (z:=z) (n:=5) h0 (by omega) (by decide)
 rw [e,Option.bind_some]
 dsimp only
 have hm : ∀ v : Int,Byte (v % 256):=fun v=>⟨Int.emod_nonneg _ (by decide),Int.emod_lt_of_pos _ (by decide)⟩
 cases x with
 | true =>
  obtain ⟨y,c,z2,e2,hc0,hc1⟩:=spec_l1Cur_among.some_ hs (a:=b) (z:=z1) (l:=[0,1,2,3,255,27]) (by omega) (by omega) (by decide)
  rw [if_pos rfl,e2,Option.bind_some]
  exact ⟨_,c,_,rfl,hm _,by omega,by omega⟩
 | false =>
  obtain ⟨y,c,z2,e2,_,_,hc0,hc1⟩:=spec_l1Cur_pick.some_ hs (a:=b) (z:=z1) (n:=256) (by omega) (by omega) (by decide)
  rw [if_neg (by decide),e2,Option.bind_some]
  exact ⟨_,c,_,rfl,hm _,by omega,by omega⟩

set_option maxRecDepth 4000 in
theorem spec_l1Cur_vector.some_l0 {s : List Int} (hs : Bytes s) : ∀ (n : Nat) (o : List Int) (a z : Int),n≤100→0≤a→a+4*n≤4611686018427380000→o.length+n≤200→∃ r b z',Ev (fun k=>spec_l1Cur_vector.l0 k (n : Int) o s a z) (o ++ r,b,z')∧Bytes r∧r.length=n∧a≤b∧b≤a+4*n
 | 0,o,a,z,_,h0,h1,_=>by
  refine ⟨[],a,z,?_,fun x hx=>(by cases hx),rfl,by omega,by omega⟩
  refine Ev.step (fun k=>spec_l1Cur_vector.l0.eq_2 _ _ _ _ _ k) ?_
  refine ev_neg (by omega) (ev_now ?_)
  rw [List.append_nil]
 | n+1,o,a,z,hn,h0,h1,ho=>by
  obtain ⟨x,b,z1,e,hx,hb0,hb1⟩:=spec_l1Cur_byte.some_ hs (a:=a) (z:=z) h0 (by omega)
  obtain ⟨r,c,z2,he,hr,hrl,hc0,hc1⟩:=spec_l1Cur_vector.some_l0 hs n (o ++ [x]) b z1 (by omega) (by omega) (by omega) (by rw [List.length_append];simp;omega)
  refine ⟨x :: r,c,z2,?_,fun y hy=>?_,by rw [List.length_cons,hrl],by omega,by omega⟩
  ·refine Ev.step (fun k=>spec_l1Cur_vector.l0.eq_2 _ _ _ _ _ k) ?_
   refine ev_pos (by omega) ?_
   rw [e]
   simp only [Option.bind_some]
   refine ev_pos (by omega) ?_
   rw [show wrap64 (((n+1 : Nat) : Int) - 1)=(n : Int) by rw [wrap_id (by omega) (by omega)];omega]
   rw [List.append_assoc] at he
   exact he
  ·rcases List.mem_cons.1 hy with rfl | h
   ·exact hx
   ·exact hr y h
theorem spec_l1Cur_vector.some_ {s : List Int} (hs : Bytes s) {n a z : Int} (hn0 : 0≤n) (hn : n≤100) (h0 : 0≤a) (h1 : a≤4611686018427370000) : ∃ r b z',Ev (fun k=>spec_l1Cur_vector.f k s a z n) (r,b,z')∧Bytes r∧a≤b∧b≤a+400:=by
 obtain ⟨m,rfl⟩:=Int.eq_ofNat_of_zero_le hn0
 obtain ⟨r,b,z',he,hr,_,hb0,hb1⟩:=spec_l1Cur_vector.some_l0 hs m [] a z (by omega) h0 (by omega) (by simp;omega)
 exact ⟨r,b,z',he,hr,hb0,by omega⟩

theorem matBytes_snoc {m : List (List Int)} {r : List Int} (h : matBytes m) (hr : Bytes r) : matBytes (m ++ [r]):=by
 intro x hx
 rcases List.mem_append.1 hx with h2 | h2
 ·exact h x h2
 ·simp at h2;subst h2;exact hr
theorem matBytes_set {m : List (List Int)} {r : List Int} (h : matBytes m) (hr : Bytes r) (i : Nat) : matBytes (m.set i r):=by
 intro x hx
 rcases List.mem_or_eq_of_mem_set hx with h2 | h2
 ·exact h x h2
 ·subst h2;exact hr
theorem rowsLe_snoc {n : Nat} {m : List (List Int)} {r : List Int} (h : ∀ x ∈ m,x.length≤n) (hr : r.length≤n) : ∀ x ∈ m ++ [r],x.length≤n:=by
 intro x hx
 rcases List.mem_append.1 hx with h2 | h2
 ·exact h x h2
 ·simp at h2;subst h2;exact hr
theorem rowsLe_set {n : Nat} {m : List (List Int)} {r : List Int} (h : ∀ x ∈ m,x.length≤n) (hr : r.length≤n) (i : Nat) : ∀ x ∈ m.set i r,x.length≤n:=by
 intro x hx
 rcases List.mem_or_eq_of_mem_set hx with h2 | h2
 ·exact h x h2
 ·subst h2;exact hr
theorem getD_mem {m : List (List Int)} {i : Nat} (h : i < m.length) : m.getD i [] ∈ m:=by
 rw [List.getD_eq_getElem?_getD,List.getElem?_eq_getElem h]
 exact List.getElem_mem h
theorem spec_l1Cur_matrix.some_j2 {s : List Int} (hs : Bytes s) {a z : Int} (h0 : 0≤a) (h1 : a≤4611686018427360100) (m : List (List Int)) (hm : matBytes m) (hr : ∀ x ∈ m,x.length≤100) :
  ∃ q b z',Ev (fun k=>spec_l1Cur_matrix.j2 k s a z m) (q,b,z')∧matBytes q∧q.length=m.length∧(∀ x ∈ q,x.length≤101)∧a≤b∧b≤a+2:=by
 have hr1 : ∀ x ∈ m,x.length≤101:=fun x hx=>by have:=hr x hx;omega
 by_cases c : m.length=0
 ·refine ⟨m,a,z,?_,hm,rfl,hr1,by omega,by omega⟩
  refine Ev.step (fun k=>spec_l1Cur_matrix.j2.eq_2 _ _ _ _ k) ?_
  exact ev_neg (by omega) (ev_now rfl)
 ·obtain ⟨x,b,z1,e,hb0,hb1⟩:=spec_l1Cur_one.some_ hs (a:=a) (z:=z) (n:=40) h0 (by omega) (by decide)
  have hm0:=getD_mem (m:=m) (i:=0) (by omega)
  have hl0:=hr _ hm0
  cases x with
  | true =>
   refine ⟨m.set 0 (m.getD 0 [] ++ [1]),b,z1,?_,matBytes_set hm ((hm _ hm0).append (Bytes.one .one)) 0,by rw [List.length_set],rowsLe_set hr1 (by simp only [List.length_append,List.length_singleton];omega) 0,hb0,hb1⟩
   refine Ev.step (fun k=>spec_l1Cur_matrix.j2.eq_2 _ _ _ _ k) ?_
   refine ev_pos (by omega) ?_
   rw [e]
   simp only [Option.bind_some,rdSS0,Int.toNat_zero]
   exact ev_pos trivial (ev_pos (by omega) (ev_pos (by omega) (ev_now rfl)))
  | false =>
   refine ⟨m,b,z1,?_,hm,rfl,hr1,hb0,hb1⟩
   refine Ev.step (fun k=>spec_l1Cur_matrix.j2.eq_2 _ _ _ _ k) ?_
   refine ev_pos (by omega) ?_
   rw [e]
   simp only [Option.bind_some]
   exact ev_neg (by decide) (ev_now rfl)
theorem spec_l1Cur_matrix.some_j1 {s : List Int} (hs : Bytes s) {a z : Int} (h0 : 0≤a) (h1 : a≤4611686018427360100) (m : List (List Int)) (hm : matBytes m) (hr : ∀ x ∈ m,x.length≤100) (q : Bool) (hq : q=true→1 < m.length) :
  ∃ t b z',Ev (fun k=>spec_l1Cur_matrix.j1 k q s a z m) (t,b,z')∧matBytes t∧t.length=m.length∧(∀ x ∈ t,x.length≤101)∧a≤b∧b≤a+2:=by
 cases q with
 | true =>
  have hl:=hq rfl
  have hm1:=getD_mem (m:=m) (i:=1) (by omega)
  have hl1:=hr _ hm1
  obtain ⟨t,b,z',e,h2,h3,h4,h5,h6⟩:=spec_l1Cur_matrix.some_j2 hs (z:=z) h0 h1 (m.set 0 (m.getD 1 [])) (matBytes_set hm (hm _ hm1) 0) (rowsLe_set hr hl1 0)
  refine ⟨t,b,z',?_,h2,by rw [h3,List.length_set],h4,h5,h6⟩
  refine Ev.step (fun k=>spec_l1Cur_matrix.j1.eq_2 _ _ _ _ _ k) ?_
  refine ev_pos rfl ?_
  simp only [Option.bind_some,List.nil_append,rdSS0,show (1 : Int).toNat=1 from rfl,Int.toNat_zero]
  have hy : (m.set 0 (m.getD 1 [])).length=m.length:=List.length_set
  exact ev_pos (by omega) (ev_pos (by first | omega | (simp only [List.length_nil];omega)) (ev_pos (by first | omega | (simp only [List.length_nil];omega)) e))
 | false =>
  obtain ⟨t,b,z',e,h2,h3,h4,h5,h6⟩:=spec_l1Cur_matrix.some_j2 hs (z:=z) h0 h1 m hm hr
  refine ⟨t,b,z',?_,h2,h3,h4,h5,h6⟩
  refine Ev.step (fun k=>spec_l1Cur_matrix.j1.eq_2 _ _ _ _ _ k) ?_
  exact ev_neg (by decide) e
theorem spec_l1Cur_vector.some_n {s : List Int} (hs : Bytes s) {a z : Int} (n : Nat) (hn : n≤100) (h0 : 0≤a) (h1 : a≤4611686018427370000) : ∃ r b z',Ev (fun k=>spec_l1Cur_vector.f k s a z (n : Int)) (r,b,z')∧Bytes r∧r.length=n∧a≤b∧b≤a+400:=by
 obtain ⟨r,b,z',he,hr,hl,hb0,hb1⟩:=spec_l1Cur_vector.some_l0 hs n [] a z hn h0 (by omega) (by simp;omega)
 exact ⟨r,b,z',he,hr,hl,hb0,by omega⟩
theorem spec_l1Cur_matrix.some_l0 {s : List Int} (hs : Bytes s) (c : Nat) (hc : c≤100) : ∀ (n : Nat) (o : List (List Int)) (a z : Int),0≤a→a+400*n≤4611686018427360000→matBytes o→(∀ x ∈ o,x.length≤100)→o.length+n≤1000 →
  ∃ t b z',Ev (fun k=>spec_l1Cur_matrix.l0 k (n : Int) (c : Int) s a z o) (t,b,z')∧matBytes t∧t.length=o.length+n∧(∀ x ∈ t,x.length≤101)∧a≤b∧b≤a+400*n+4
 | 0,o,a,z,h0,h1,ho,hr,hl=>by
  by_cases cl : 1 < o.length
  ·obtain ⟨x,b,z1,e,hb0,hb1⟩:=spec_l1Cur_one.some_ hs (a:=a) (z:=z) (n:=6) h0 (by omega) (by decide)
   obtain ⟨t,d,z2,e2,h2,h3,h4,h5,h6⟩:=spec_l1Cur_matrix.some_j1 hs (a:=b) (z:=z1) (by omega) (by omega) o ho hr x (fun _=>cl)
   refine ⟨t,d,z2,?_,h2,by omega,h4,by omega,by omega⟩
   refine Ev.step (fun k=>spec_l1Cur_matrix.l0.eq_2 _ _ _ _ _ _ k) ?_
   refine ev_neg (by omega) (ev_pos (by omega) ?_)
   rw [e]
   simp only [Option.bind_some]
   exact e2
  ·obtain ⟨t,d,z2,e2,h2,h3,h4,h5,h6⟩:=spec_l1Cur_matrix.some_j1 hs (z:=z) h0 (by omega) o ho hr false (fun q=>by cases q)
   refine ⟨t,d,z2,?_,h2,by omega,h4,by omega,by omega⟩
   refine Ev.step (fun k=>spec_l1Cur_matrix.l0.eq_2 _ _ _ _ _ _ k) ?_
   exact ev_neg (by omega) (ev_neg (by omega) e2)
 | n+1,o,a,z,h0,h1,ho,hr,hl=>by
  obtain ⟨r,b,z1,e,hr1,hr2,hb0,hb1⟩:=spec_l1Cur_vector.some_n hs (z:=z) c hc h0 (by omega)
  obtain ⟨t,d,z2,e2,h2,h3,h4,h5,h6⟩:=spec_l1Cur_matrix.some_l0 hs c hc n (o ++ [r]) b z1 (by omega) (by omega) (matBytes_snoc ho hr1) (rowsLe_snoc hr (by omega)) (by rw [List.length_append];simp;omega)
  rw [List.length_append] at h3
  simp at h3
  refine ⟨t,d,z2,?_,h2,by omega,h4,by omega,by omega⟩
  refine Ev.step (fun k=>spec_l1Cur_matrix.l0.eq_2 _ _ _ _ _ _ k) ?_
  refine ev_pos (by omega) (ev_bind e (ev_pos (by omega) ?_))
  rw [show wrap64 (((n+1 : Nat) : Int) - 1)=(n : Int) by rw [wrap_id (by omega) (by omega)];omega]
  exact e2
theorem spec_l1Cur_matrix.some_ {s : List Int} (hs : Bytes s) {a z n c : Int} (hn0 : 0≤n) (hn : n≤100) (hc0 : 0≤c) (hc : c≤100) (h0 : 0≤a) (h1 : a≤4611686018427300000) :
  ∃ t b z',Ev (fun k=>spec_l1Cur_matrix.f k s a z n c) (t,b,z')∧matBytes t∧(t.length : Int)=n∧(∀ x ∈ t,x.length≤101)∧a≤b∧b≤a+50000:=by
 obtain ⟨i,rfl⟩:=Int.eq_ofNat_of_zero_le hn0
 obtain ⟨j,rfl⟩:=Int.eq_ofNat_of_zero_le hc0
 obtain ⟨t,b,z',e,h2,h3,h4,h5,h6⟩:=spec_l1Cur_matrix.some_l0 hs j (by omega) i [] a z h0 (by omega) (fun x hx=>by cases hx) (fun x hx=>by cases hx) (by simp;omega)
 simp at h3
 exact ⟨t,b,z',e,h2,by omega,h4,h5,by omega⟩

theorem spec_DrawPartOf.some_ {s : List Int} (hs : Bytes s) : ∃ m r c,Ev (fun k=>spec_DrawPartOf.f k s) (m,r,c)∧r.length≤200∧c.length≤200∧(∀ x ∈ r,(Lit.int .i64 x).wf=true)∧(∀ x ∈ c,(Lit.int .i64 x).wf=true)∧m.length≤100∧∀ x ∈ m,x.length≤101:=by
 obtain ⟨p,a1,z1,e1,hp0,hp1,ha0,ha1⟩:=spec_l1Cur_pick.some_ hs (a:=0) (z:=0) (n:=4) (by decide) (by decide) (by decide)
 obtain ⟨q,a2,z2,e2,hq0,hq1,hb0,hb1⟩:=spec_l1Cur_pick.some_ hs (a:=a1) (z:=z1) (n:=4) (by omega) (by omega) (by decide)
 have w1 : wrap64 (1+p)=1+p:=wrap_id (by omega) (by omega)
 have w2 : wrap64 (1+q)=1+q:=wrap_id (by omega) (by omega)
 obtain ⟨m,a3,z3,e3,hm,hml,hmr,hc0,hc1⟩:=spec_l1Cur_matrix.some_ hs (a:=a2) (z:=z2) (n:=1+p) (c:=1+q) (by omega) (by omega) (by omega) (by omega) (by omega) (by omega)
 obtain ⟨t,a4,z4,e4,ht0,ht1,hd0,hd1⟩:=spec_l1Cur_pick.some_ hs (a:=a3) (z:=z3) (n:=3) (by omega) (by omega) (by decide)
 have w3 : wrap64 (1+t)=1+t:=wrap_id (by omega) (by omega)
 obtain ⟨r,a5,z5,e5,hr,hf0,hf1⟩:=spec_l1Cur_chosen.some_ hs m.length (by omega) (1+t) (by omega) (a:=a4) (z:=z4) (by omega) (by omega)
 obtain ⟨u,a6,z6,e6,hu0,hu1,hg0,hg1⟩:=spec_l1Cur_pick.some_ hs (a:=a5) (z:=z5) (n:=4) (by omega) (by omega) (by decide)
 have hrow:=hmr _ (getD_mem (m:=m) (i:=0) (by omega))
 obtain ⟨c,a7,z7,e7,hc,_,_⟩:=spec_l1Cur_chosen.some_ hs (m.getD 0 []).length (by omega) u (by omega) (a:=a6) (z:=z6) (by omega) (by omega)
 have hrl:=upTo_len hr
 have hcl:=upTo_len hc
 refine ⟨m,r,c,?_,by omega,by omega,upTo_wf hr (by omega),upTo_wf hc (by omega),by omega,hmr⟩
 unfold spec_DrawPartOf.f spec_DrawPartOf.g
 rw [e1]
 simp only [Option.bind_some]
 rw [e2]
 simp only [Option.bind_some]
 rw [w1,w2]
 refine ev_bind (a:=(m,r,c,a7,z7)) (ev_bind e3 ?_) (ev_now rfl)
 dsimp only
 rw [e4]
 simp only [Option.bind_some]
 rw [w3]
 refine ev_bind e5 (ev_pos (by omega) ?_)
 dsimp only
 rw [e6]
 simp only [Option.bind_some,rdSS0,Int.toNat_zero]
 exact ev_bind e7 (ev_now rfl)

open Go.Proofs.Yteflgifmdojahaa.Fld Go.Proofs.Yteflgifmdojahaa.Lin
theorem partVal_le (m : List (List Int)) (r c : List Int) : (partVal m r c).1.length≤16:=by
 unfold partVal
 split
 ·rename_i h
  have hf:=goodM_iff h.1
  have h1:=rising_len h.2.1
  show (partM m r c).length≤16
  rw [partM_length]
  omega
 ·simp
theorem laws_FnCauchy.ev_j4 (l : List Int) (hb : Bytes l) : Ev (fun k=>laws_FnCauchy.j4 k l) true:=by
 refine Ev.step (fun k=>laws_FnCauchy.j4.eq_2 _ k) ?_
 obtain ⟨m,r,c,e,hr,hc,wr,wc,_,_⟩:=spec_DrawPartOf.some_ hb
 refine ev_bind e (ev_bind (impl_PartOf.ev m r c (by omega) (by omega) wr wc) (ev_bind (spec_PartOf.ev m r c (by omega) (by omega) wr wc) ?_))
 have hl:=partVal_le m r c
 exact ev_pos (by simp) (ev_bind (laws_sameMatrices.ev _ (by omega)) (ev_now rfl))
theorem cau_byte (b i j : Nat) : Byte (cauAt b i j):=Byte.inv (mod_byte _)
theorem cau_val {b p q : Nat} (hb : b≤16) (hp : p < 16) (hq : q < b) : cauAt b p q=inv (gx ((b+p : Nat) : Int) (q : Int)):=by
 unfold cauAt
 have e : wrap64 ((b : Int)+(p : Int))=((b+p : Nat) : Int):=by rw [wrap_id (by omega) (by omega)];omega
 rw [e,xor_i64 (by omega) (by omega)]
 have hx : (b+p) ^^^ q < 256:=xor_lt (by omega) (by omega)
 unfold gx
 rw [Int.toNat_natCast,Int.toNat_natCast]
 congr 1
 omega
theorem natByte {n : Nat} (h : n < 256) : Byte (n : Int):=Byte.cast h
theorem cau_en {a b c : Nat} {r s : List Int} (hb : b≤16) (ha : a≤16) (hr : upTo a r) (hs : upTo b s) (hrl : r.length=c) (hsl : s.length=c) {i j : Nat} (hi : i < c) (hj : j < c) :
  en (partM (tab a b (cauAt b)) r s) i j=(toF ((b : Int)+rd r (i : Int))+toF (rd s (j : Int))).iv:=by
 have h1:=upTo_rd hr (show i < r.length by omega)
 have h2:=upTo_rd hs (show j < s.length by omega)
 obtain ⟨p,hp⟩:=Int.eq_ofNat_of_zero_le h1.1
 obtain ⟨q,hq⟩:=Int.eq_ofNat_of_zero_le h2.1
 unfold en
 have e1 : (partM (tab a b (cauAt b)) r s).getD i []=partRow (tab a b (cauAt b)) s p:=by
  unfold partM
  rw [List.getD_eq_getElem?_getD,List.getElem?_map,List.getElem?_range (by omega)]
  show partRow _ s (rd r ((i : Nat) : Int)).toNat=_
  rw [hp,Int.toNat_natCast]
 have e2 : (partRow (tab a b (cauAt b)) s p).getD j 0=cauAt b p q:=by
  unfold partRow
  rw [List.getD_eq_getElem?_getD,List.getElem?_map,List.getElem?_range (by omega)]
  show rd ((tab a b (cauAt b)).getD p []) (rd s ((j : Nat) : Int))=_
  rw [hq,rd_nat,tab_get2 (by omega) (by omega)]
 rw [e1,e2,hp,hq,cau_val hb (by omega) (by omega),show (b : Int)+(p : Int)=((b+p : Nat) : Int) by omega,toF_inv ((natByte (by omega)).gx (natByte (by omega))),toF_gx (natByte (by omega)) (natByte (by omega))]
theorem partM_ok {m : List (List Int)} (hm : matBytes m) (r s : List Int) : ∀ x ∈ partM m r s,okI s.length x:=by
 intro x hx
 unfold partM at hx
 simp only [List.mem_map] at hx
 obtain ⟨i,_,rfl⟩:=hx
 refine ⟨fun y hy=>?_,partRow_length _ _ _⟩
 unfold partRow at hy
 simp only [List.mem_map] at hy
 obtain ⟨j,_,rfl⟩:=hy
 exact bytes_getD (matBytes_row hm _) _
theorem cau_inv {a b c : Nat} {r s : List Int} (hb : b≤16) (ha : a≤16) (hr : upTo a r) (hs : upTo b s) (hrl : r.length=c) (hsl : s.length=c) : (invM (partM (tab a b (cauAt b)) r s)).2=true:=by
 have hl : (partM (tab a b (cauAt b)) r s).length=c:=by rw [partM_length,hrl]
 have hok : ∀ x ∈ partM (tab a b (cauAt b)) r s,okI c x:=by
  have:=partM_ok (m:=tab a b (cauAt b)) (fun x hx=>(tab_row (cau_byte b) x hx).1) r s
  rw [hsl] at this
  exact this
 rw [inv_iff (by rw [hl];exact hok),hl]
 refine rank_full hok fun z hz=>?_
 rw [hl] at hz
 have hr2 : ∀ i,i < c→∃ p : Nat,rd r (i : Int)=(p : Int)∧p < 16:=fun i hi=>by
  have h1:=upTo_rd hr (show i < r.length by omega)
  obtain ⟨p,hp⟩:=Int.eq_ofNat_of_zero_le h1.1
  exact ⟨p,hp,by omega⟩
 have hs2 : ∀ i,i < c→∃ p : Nat,rd s (i : Int)=(p : Int)∧p < b:=fun i hi=>by
  have h1:=upTo_rd hs (show i < s.length by omega)
  obtain ⟨p,hp⟩:=Int.eq_ofNat_of_zero_le h1.1
  exact ⟨p,hp,by omega⟩
 have bx : ∀ i,i < c→Byte ((b : Int)+rd r (i : Int)):=fun i hi=>by
  obtain ⟨p,hp,h⟩:=hr2 i hi
  rw [hp,show (b : Int)+(p : Int)=((b+p : Nat) : Int) by omega]
  exact natByte (by omega)
 have by_ : ∀ i,i < c→Byte (rd s (i : Int)):=fun i hi=>by
  obtain ⟨p,hp,h⟩:=hs2 i hi
  rw [hp]
  exact natByte (by omega)
 refine cauchy (x:=fun i=>toF ((b : Int)+rd r (i : Int))) (y:=fun j=>toF (rd s (j : Int))) ?_ ?_ ?_ ?_
 ·intro i j hi hj e
  have:=toF_inj (bx i hi) (bx j hj) e
  exact upTo_inj hr (by omega) (by omega) (by omega)
 ·intro i j hi hj e
  have:=toF_inj (by_ i hi) (by_ j hj) e
  exact upTo_inj hs (by omega) (by omega) this
 ·intro i j hi hj e
  have h1:=toF_inj (bx i hi) (by_ j hj) e
  obtain ⟨p,hp,_⟩:=hr2 i hi
  obtain ⟨q,hq,_⟩:=hs2 j hj
  omega
 ·intro i hi
  have:=hz i hi
  rw [← this]
  refine sm_congr c fun j hj=>?_
  rw [cau_en hb ha hr hs hrl hsl hi hj]
theorem van_rank {a b : Nat} (hb : b≤a) (ha : a≤16) : (rowI.red (tab a b vanAt) b).2=b:=by
 have hby : ∀ i j,Byte (vanAt i j):=fun i j=>Byte.pow (mod_byte _) _
 refine rank_full (fun x hx=>tab_row hby x hx) fun z hz=>?_
 rw [tab_length] at hz
 have hn : ∀ i : Nat,i < 16→Byte (i : Int):=fun i hi=>natByte (by omega)
 refine vander (x:=fun i=>toF (i : Int)) ?_ ?_
 ·intro i j hi hj e
  have:=toF_inj (hn i (by omega)) (hn j (by omega)) e
  omega
 ·intro i hi
  rw [← hz i (by omega)]
  refine sm_congr b fun j hj=>?_
  unfold en
  rw [tab_get2 (by omega) hj]
  unfold vanAt
  rw [show (i : Int) % 256=(i : Int) by omega,toF_pow (hn i (by omega))]
theorem laws_FnCauchy.ev_j3 {a b : Nat} (h1 : 1≤b) (ha1 : 1≤a) (ha : a≤16) (hb : b≤16) (l : List Int) (hl : Bytes l) : Ev (fun k=>laws_FnCauchy.j3 k l (a : Int) (b : Int) (!true) (tab a b vanAt)) true:=by
 refine Ev.step (fun k=>laws_FnCauchy.j3.eq_2 _ _ _ _ _ k) ?_
 refine ev_neg (by simp) ?_
 by_cases c : b≤a
 ·have hby : ∀ i j,Byte (vanAt i j):=fun i j=>Byte.pow (mod_byte _) _
  have hg : goodM (tab a b vanAt)=true:=goodM_of (tab_row hby) (by rw [tab_length];omega) (by rw [tab_length];omega) h1 hb
  refine ev_pos (by omega) ?_
  rw [impl_RankOf.ev _ (fun x hx=>(tab_row hby x hx).1)]
  simp only [Option.bind_some]
  unfold rankVal
  rw [if_pos hg,tab_getD_length (by omega),van_rank c ha]
  exact ev_pos rfl (ev_pos rfl (laws_FnCauchy.ev_j4 l hl))
 ·exact ev_neg (by omega) (laws_FnCauchy.ev_j4 l hl)
theorem laws_FnCauchy.ev_j2 {a b c : Nat} (h1 : 1≤c) (hca : c≤a) (hcb : c≤b) (ha : a≤16) (hb : b≤16) (x l : List Int) (hl : Bytes l) : Ev (fun k=>laws_FnCauchy.j2 k x l (a : Int) (b : Int) (c : Int) (tab a b (cauAt b)) (tab a b vanAt)) true:=by
 refine Ev.step (fun k=>laws_FnCauchy.j2.eq_2 _ _ _ _ _ _ _ k) ?_
 obtain ⟨t,e1,ht,htl⟩:=laws_someOf.some_ a c l (by omega) hca
 obtain ⟨u,e2,hu,hul⟩:=laws_someOf.some_ b c x (by omega) hcb
 refine ev_bind e1 (ev_pos (by omega) (ev_pos (by omega) (ev_bind e2 (ev_pos (by omega) ?_))))
 rw [Int.toNat_natCast]
 have ht2:=upTo_take ht c
 have hu2:=upTo_take hu c
 have htl2 : (t.take c).length=c:=by rw [List.length_take];omega
 have hul2 : (u.take c).length=c:=by rw [List.length_take];omega
 have hg : goodM (tab a b (cauAt b))=true:=goodM_of (tab_row (cau_byte b)) (by rw [tab_length];omega) (by rw [tab_length];omega) (by omega) hb
 have hp : partVal (tab a b (cauAt b)) (t.take c) (u.take c)=(partM (tab a b (cauAt b)) (t.take c) (u.take c),true):=if_pos ⟨hg,by rw [tab_length];exact upTo_rising ht2,by rw [tab_getD_length (by omega)];exact upTo_rising hu2,by omega,by omega⟩
 refine ev_bind (impl_PartOf.ev _ _ _ (by omega) (by omega) (upTo_wf ht2 (by omega)) (upTo_wf hu2 (by omega))) ?_
 rw [hp]
 dsimp only
 have hok:=partM_ok (m:=tab a b (cauAt b)) (fun x hx=>(tab_row (cau_byte b) x hx).1) (t.take c) (u.take c)
 rw [hul2] at hok
 have hlen : (partM (tab a b (cauAt b)) (t.take c) (u.take c)).length=c:=by rw [partM_length,htl2]
 have hgp : goodM (partM (tab a b (cauAt b)) (t.take c) (u.take c))=true:=goodM_of (n:=c) hok (by omega) (by omega) h1 (by omega)
 have h0 : ((partM (tab a b (cauAt b)) (t.take c) (u.take c)).getD 0 []).length=c:=(hok _ (getD_mem (by omega))).2
 rw [impl_InverseOf.ev _ (fun x hx=>(hok x hx).1)]
 simp only [Option.bind_some]
 refine ev_pos trivial ?_
 unfold invVal
 rw [if_pos ⟨hgp,by omega⟩,cau_inv hb ha ht2 hu2 htl2 hul2]
 exact laws_FnCauchy.ev_j3 (by omega) (by omega) ha hb l hl
theorem laws_FnCauchy.ev_j1 {a b c : Nat} (h1 : 1≤c) (hca : c≤a) (hb1 : 1≤b) (ha : a≤16) (hb : b≤16) (x l : List Int) (hl : Bytes l) : Ev (fun k=>laws_FnCauchy.j1 k x l (a : Int) (b : Int) (c : Int) (tab a b (cauAt b)) (tab a b vanAt)) true:=by
 refine Ev.step (fun k=>laws_FnCauchy.j1.eq_2 _ _ _ _ _ _ _ k) ?_
 by_cases h : c≤b
 ·exact ev_neg (by omega) (laws_FnCauchy.ev_j2 h1 hca h ha hb x l hl)
 ·exact ev_pos (by omega) (laws_FnCauchy.ev_j2 hb1 (by omega) (by omega) ha hb x l hl)
theorem FnCauchy : ∀ (l0 l1 : List Int),(l0.length≤maxLen∧∀ x ∈ l0,(Lit.int .u8 x).wf=true)→(l1.length≤maxLen∧∀ x ∈ l1,(Lit.int .u8 x).wf=true)→∃ k,laws_FnCauchy.f k l0 l1=some true:=by
 intro l0 l1 h0 h1
 refine Ev.rounds ?_
 unfold laws_FnCauchy.f
 by_cases hz : wrap64 ((l0.length : Int)+(l1.length : Int)) > 1048576
 ·exact ev_pos hz (ev_now rfl)
 ·refine ev_neg hz ?_
  have hm:=h1.1
  unfold maxLen at hm
  have hb1:=Bytes.of_wf h1.2
  obtain ⟨n,m,e⟩:=spec_DrawCauchy.some_ (Bytes.of_wf h0.2)
  rw [e]
  simp only [Option.bind_some]
  refine ev_bind (impl_Cauchy.ev n m) (ev_bind (spec_Cauchy.ev n m) (ev_bind (impl_Vandermonde.ev n m) (ev_bind (spec_Vandermonde.ev n m) ?_)))
  refine ev_neg (by simp) (ev_bind (laws_sameMatrices.ev _ ?hc) (ev_pos rfl (ev_neg (by simp) (ev_bind (laws_sameMatrices.ev _ ?hv) ?_))))
  case hc =>
   unfold cauchyVal
   split
   ·show (tab _ _ _).length≤_
    rw [tab_length];omega
   ·simp
  case hv =>
   unfold vanVal
   split
   ·show (tab _ _ _).length≤_
    rw [tab_length];omega
   ·simp
  refine Ev.step (fun k=>laws_FnCauchy.j0.eq_2 _ _ _ _ _ _ _ _ k) ?_
  refine ev_neg (by simp) ?_
  by_cases c : (1≤n∧n≤16)∧1≤m∧m≤16
  ·rw [show cauchyVal n m=(tab n.toNat m.toNat (cauAt m.toNat),true) from if_pos c,show vanVal n m=(tab n.toNat m.toNat vanAt,true) from if_pos c]
   refine ev_pos rfl ?_
   obtain ⟨a,rfl⟩:=Int.eq_ofNat_of_zero_le (show 0≤n by omega)
   obtain ⟨b,rfl⟩:=Int.eq_ofNat_of_zero_le (show 0≤m by omega)
   simp only [Int.toNat_natCast]
   obtain ⟨t,et,ht0,ht1⟩:=laws_numberOf.pos_ l1 (by omega) hb1
   refine ev_bind et ?_
   have hq0:=Int.tmod_nonneg (a:=t) 4 ht0
   have hq1:=Int.tmod_lt_of_pos t (b:=4) (by decide)
   obtain ⟨q,hq⟩:=Int.eq_ofNat_of_zero_le hq0
   rw [hq,show wrap64 (1+(q : Int))=((1+q : Nat) : Int) by rw [wrap_id (by omega) (by omega)];omega]
   by_cases h : 1+q≤a
   ·exact ev_neg (by omega) (laws_FnCauchy.ev_j1 (by omega) h (by omega) (by omega) (by omega) l0 l1 hb1)
   ·exact ev_pos (by omega) (laws_FnCauchy.ev_j1 (by omega) (Nat.le_refl a) (by omega) (by omega) (by omega) l0 l1 hb1)
  ·rw [show cauchyVal n m=([],false) from if_neg c]
   exact ev_neg (by simp) (laws_FnCauchy.ev_j4 l1 hb1)

end Go.Proofs.Yteflgifmdojahaa.Pure
-- HALVED
-- SQUEEZED
