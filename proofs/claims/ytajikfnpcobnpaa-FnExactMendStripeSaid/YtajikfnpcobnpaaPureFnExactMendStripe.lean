/- The given program's MendStripe returns what the reference's MendStripe returns, for all stripes and lists of lost elements, leaves them as they were, and what it returns is its own; there is no condition. -/
import Derived.Test.YtajikfnpcobnpaaPFnExactMendStripex
import Derived.Test.YtajikfnpcobnpaaWalkFnExactMendStripe
import Derived.Test.YtajikfnpcobnpaaVMendStripeA
import Derived.Test.YtajikfnpcobnpaaVMendStripeC
namespace Go.Proofs.Ytajikfnpcobnpaa.Pure
open Go.RowKit Go.Proofs.Ytajikfnpcobnpaa.PFnExactMendStripe Go.Proofs.YtajikfnpcobnpaaW.PrintWords Go.Proofs.YtajikfnpcobnpaaW.PrintLast Go.Proofs.Ytajikfnpcobnpaa.Gf Go.Proofs.Ytajikfnpcobnpaa.Kit Go.Proofs.Ytajikfnpcobnpaa.KitW
open Go.Proofs.Ytajikfnpcobnpaa.KitN hiding idM_length
set_option linter.unusedVariables false
set_option linter.unusedSimpArgs false

theorem rdSS (l : List (List Int)) (i : Nat) (h : i < l.length) : rd_L3 l (i : Int)=l[i]:=by unfold rd_L3;simp [List.getD,h]
theorem rdSS0 (l : List (List Int)) (i : Int) : rd_L3 l i=l.getD i.toNat []:=rfl
theorem impl_Times.ev_l0 (b : Nat) (hb : b < 256) : ∀ (n i o x : Nat),i+n=8→o < 256→x < 256 →
  Ev (fun k=>impl_Times.l0 k (b : Int) (o : Int) (i : Int) (x : Int)) ((T n o x (b / 2 ^ i) : Nat) : Int)
 | 0,i,o,x,hi,ho,hx=>by
  refine Ev.step (fun k=>impl_Times.l0.eq_2 _ _ _ _ k) ?_
  refine ev_neg (by omega) (ev_now ?_)
  simp only [T]
  omega
 | n+1,i,o,x,hi,ho,hx=>by
  refine Ev.step (fun k=>impl_Times.l0.eq_2 _ _ _ _ k) ?_
  refine ev_pos (by omega) (ev_pos (by omega) ?_)
  have e1 : shr .u8 (b : Int) (i : Int)=((b / 2 ^ i : Nat) : Int):=by
   unfold shr
   rw [Nat.min_eq_left (by simp only [IntKind.bits];omega)]
   simp
  have hd : b / 2 ^ i < 256:=Nat.lt_of_le_of_lt (Nat.div_le_self _ _) hb
  have e2 : wrap64 ((x : Int)*2)=((2*x : Nat) : Int):=by rw [wrap_id (by omega) (by omega)];omega
  have e3 : wrap64 ((i : Int)+1)=((i+1 : Nat) : Int):=by rw [wrap_id (by omega) (by omega)];omega
  rw [e1,and1_u8 hd,e2,e3]
  have e4 : Go.bits .xor .i64 (o : Int) (x : Int)=((o ^^^ x : Nat) : Int):=xor_i64 (by omega) (by omega)
  have e5 : Go.bits .xor .i64 ((2*x : Nat) : Int) 283=((2*x ^^^ 283 : Nat) : Int):=xor_i64 (m:=2*x) (n:=283) (by omega) (by omega)
  have e6 : b / 2 ^ i / 2=b / 2 ^ (i+1):=by rw [Nat.div_div_eq_div_mul,Nat.pow_succ]
  rw [e4,e5]
  have hT : T (n+1) o x (b / 2 ^ i)=T n (if b / 2 ^ i % 2=1 then o ^^^ x else o) (xt x) (b / 2 ^ (i+1)):=by rw [T,e6]
  rw [hT]
  have hxt:=xt_lt hx
  have hox:=xor_lt ho hx
  by_cases h1 : b / 2 ^ i % 2=1
  ·rw [if_pos h1]
   refine ev_pos (by omega) ?_
   by_cases h2 : 2*x > 255
   ·refine ev_pos (by omega) ?_
    have : xt x=2*x ^^^ 283:=by unfold xt;rw [if_pos h2]
    rw [this] at hxt ⊢
    exact impl_Times.ev_l0 b hb n (i+1) _ _ (by omega) hox hxt
   ·refine ev_neg (by omega) ?_
    have : xt x=2*x:=by unfold xt;rw [if_neg h2]
    rw [this] at hxt ⊢
    exact impl_Times.ev_l0 b hb n (i+1) _ _ (by omega) hox hxt
  ·rw [if_neg h1]
   refine ev_neg (by omega) ?_
   by_cases h2 : 2*x > 255
   ·refine ev_pos (by omega) ?_
    have : xt x=2*x ^^^ 283:=by unfold xt;rw [if_pos h2]
    rw [this] at hxt ⊢
    exact impl_Times.ev_l0 b hb n (i+1) _ _ (by omega) ho hxt
   ·refine ev_neg (by omega) ?_
    have : xt x=2*x:=by unfold xt;rw [if_neg h2]
    rw [this] at hxt ⊢
    exact impl_Times.ev_l0 b hb n (i+1) _ _ (by omega) ho hxt
theorem impl_Times.ev {a b : Int} (ha : Byte a) (hb : Byte b) : Ev (fun k=>impl_Times.f k a b) (mul a b):=by
 obtain ⟨m,hm,rfl⟩:=ha.nat
 obtain ⟨n,hn,rfl⟩:=hb.nat
 unfold impl_Times.f
 rw [wrap_id (by omega) (by omega)]
 have h:=impl_Times.ev_l0 n hn 8 0 0 m rfl (by decide) hm
 exact ev_eq h (by unfold Gf.mul gm;simp)

theorem impl_power.ev_l0 : ∀ (N n : Nat) (a o : Int),n≤N→n < 4294967296→Byte a→Byte o→Ev (fun k=>impl_power.l0 k a (n : Int) o) (mul o (pow a n)):=by
 intro N
 induction N with
 | zero =>
  intro n a o hN hn ha ho
  obtain rfl : n=0:=by omega
  refine Ev.step (fun k=>impl_power.l0.eq_2 _ _ _ k) ?_
  exact ev_neg (by omega) (ev_now (by rw [pow_zero,mul_one ho]))
 | succ N ih =>
  intro n a o hN hn ha ho
  refine Ev.step (fun k=>impl_power.l0.eq_2 _ _ _ k) ?_
  by_cases h0 : n=0
  ·subst h0
   exact ev_neg (by omega) (ev_now (by rw [pow_zero,mul_one ho]))
  refine ev_pos (by omega) ?_
  have e : ((n : Int) / 2)=((n / 2 : Nat) : Int):=by omega
  have haa:=Byte.mul ha a
  have hsq : pow (mul a a) (n / 2)=pow a (2*(n / 2)):=by rw [pow_mul ha,pow_two ha]
  rw [and1_i64 hn,e]
  by_cases h1 : n % 2=1
  ·refine ev_pos (by omega) ?_
   refine ev_bind (impl_Times.ev ho ha) (ev_bind (impl_Times.ev ha ha) ?_)
   refine ev_eq (ih (n / 2) _ _ (by omega) (by omega) haa (Byte.mul ho a)) ?_
   have hn2 : n=1+2*(n / 2):=by omega
   rw [hsq,mul_assoc ho ha (Byte.pow ha _)]
   conv=>rhs;rw [hn2,pow_add ha,pow_one ha]
  ·refine ev_neg (by omega) ?_
   refine ev_bind (impl_Times.ev ha ha) ?_
   refine ev_eq (ih (n / 2) _ _ (by omega) (by omega) haa ho) ?_
   have hn2 : n=2*(n / 2):=by omega
   rw [hsq,← hn2]
theorem impl_power.ev {a : Int} (ha : Byte a) (n : Nat) (hn : n < 4294967296) : Ev (fun k=>impl_power.f k a (n : Int)) (pow a n):=by
 unfold impl_power.f
 refine ev_eq (impl_power.ev_l0 n n a 1 (Nat.le_refl _) hn ha .one) ?_
 exact one_mul (Byte.pow ha n)

theorem laws_szStringS.ev_l0 (l : List ByteArray) (hl : l.length≤1048576) (hr : ∀ r ∈ l,r.size≤maxLen) : ∀ (n i : Nat) (t : Int),i+n=l.length→0≤t→t≤1048576 →
  Ev (fun k=>laws_szStringS.l0 k l t (i : Int)) (if (totT (l.drop i) : Int)≤t then t - (totT (l.drop i) : Int) else -1)
 | 0,i,t,hi,h0,h1=>by
  refine Ev.step (fun k=>laws_szStringS.l0.eq_2 _ _ _ k) ?_
  refine ev_neg (by omega) (ev_now ?_)
  rw [List.drop_of_length_le (by omega)]
  simp [totT,h0]
 | n+1,i,t,hi,h0,h1=>by
  have hlt : i < l.length:=by omega
  have hm : i < 4611686018427387904:=by omega
  have he : totT (l.drop i)=l[i].size+totT (l.drop (i+1)):=by rw [List.drop_eq_getElem_cons hlt];rfl
  have hb:=hr _ (List.getElem_mem hlt)
  unfold maxLen at hb
  have hw : wrap64 (t - (l[i].size : Int))=t - (l[i].size : Int):=by unfold wrap64;omega
  refine Ev.step (fun k=>laws_szStringS.l0.eq_2 _ _ _ k) ?_
  refine ev_pos (by omega) (ev_pos (by omega) ?_)
  rw [rdOf_nat,txt_get hlt,he,hw]
  by_cases h : (l[i].size : Int)≤t
  ·refine ev_neg (by omega) ?_
   rw [inc hm]
   refine ev_eq (laws_szStringS.ev_l0 l hl hr n (i+1) (t - (l[i].size : Int)) (by omega) (by omega) (by omega)) ?_
   by_cases h2 : (totT (l.drop (i+1)) : Int)≤t - (l[i].size : Int)
   ·rw [if_pos h2,if_pos (by omega)];omega
   ·rw [if_neg h2,if_neg (by omega)]
  ·refine ev_pos (by omega) (ev_now ?_)
   rw [if_neg (by omega)]
theorem laws_szStringS.ev (l : List ByteArray) (hl : l.length≤maxLen) (hr : ∀ r ∈ l,r.size≤maxLen) (t : Int) (h0 : 0≤t) (h1 : t≤1048576) :
  Ev (fun k=>laws_szStringS.f k l t) (if (l.length : Int)+(totT l : Int)≤t then t - (l.length : Int) - (totT l : Int) else -1):=by
 unfold laws_szStringS.f
 have e : wrap64 (t - (l.length : Int))=t - (l.length : Int):=by unfold maxLen at hl;unfold wrap64;omega
 rw [e]
 by_cases h : (l.length : Int)≤t
 ·refine ev_neg (by omega) (ev_eq (laws_szStringS.ev_l0 l (by omega) hr l.length 0 _ (by omega) (by omega) (by omega)) ?_)
  rw [List.drop_zero]
  by_cases h2 : (totT l : Int)≤t - (l.length : Int)
  ·rw [if_pos h2,if_pos (by omega)]
  ·rw [if_neg h2,if_neg (by omega)]
 ·refine ev_pos (by omega) (ev_now ?_)
  rw [if_neg (by omega)]

theorem laws_szStripe.ev (l m : List ByteArray) (hl : l.length≤maxLen∧∀ x ∈ l,ByteArray.size x≤maxLen) (hm : m.length≤maxLen∧∀ x ∈ m,ByteArray.size x≤maxLen) (t : Int) (h0 : 0≤t) (h1 : t≤1048576) :
  Ev (fun k=>laws_szStripe.f k l m t) (if (l.length : Int)+(totT l : Int)+((m.length : Int)+(totT m : Int))≤t then t - ((l.length : Int)+(totT l : Int)) - ((m.length : Int)+(totT m : Int)) else -1):=by
 unfold laws_szStripe.f
 refine ev_bind (laws_szStringS.ev l hl.1 hl.2 t h0 h1) ?_
 by_cases c : (l.length : Int)+(totT l : Int)≤t
 ·rw [if_pos c]
  refine ev_neg (by omega) (ev_bind (laws_szStringS.ev m hm.1 hm.2 _ (by omega) (by omega)) ?_)
  by_cases c2 : (m.length : Int)+(totT m : Int)≤t - (l.length : Int) - (totT l : Int)
  ·rw [if_pos c2]
   refine ev_neg (by omega) (ev_now ?_)
   rw [if_pos (by omega)]
   omega
  ·rw [if_neg c2]
   refine ev_pos (by omega) (ev_now ?_)
   rw [if_neg (by omega)]
 ·rw [if_neg c]
  refine ev_pos (by omega) (ev_now ?_)
  rw [if_neg (by omega)]

theorem spec_l1In.ev (a b c : Int) : spec_l1In.f a b c=some (decide (b≤a∧a≤c)):=by
 unfold spec_l1In.f
 by_cases h : a ≥ b
 ·rw [if_pos h];simp [h]
 ·rw [if_neg h];simp;omega

theorem spec_l3Texts.ev_l0 (l : List ByteArray) (hl : l.length < 4611686018427387904) : ∀ (d i : Nat),i+d=l.length→Ev (fun k=>spec_l3Texts.l0 k l l (l.length : Int) (i : Int)) (!((List.range d).any fun t=>badT l (i+t)))
 | 0,i,hi=>by
  refine Ev.step (fun k=>spec_l3Texts.l0.eq_2 _ _ _ _ k) ?_
  exact ev_neg (by omega) (ev_now rfl)
 | d+1,i,hi=>by
  refine Ev.step (fun k=>spec_l3Texts.l0.eq_2 _ _ _ _ k) ?_
  simp only [rdOf_nat,rdOf_zero]
  refine ev_pos (by omega) (ev_pos (by omega) (ev_pos (by omega) (ev_pos (by omega) ?_)))
  have ha : ((List.range (d+1)).any fun t=>badT l (i+t))=(badT l i || (List.range d).any fun t=>badT l (i+1+t)):=by
   rw [List.range_succ_eq_map,List.any_cons,List.any_map,Nat.add_zero]
   congr 2
   funext t
   simp only [Function.comp_apply]
   rw [show i+(t+1)=i+1+t by omega]
  rw [ha]
  by_cases h1 : (txt l i).size=(txt l 0).size
  ·refine ev_pos (by omega) ?_
   by_cases h2 : (txt l i).size > 40
   ·refine ev_pos (by omega) (ev_now ?_)
    have : badT l i=true:=by unfold badT;rw [decide_eq_true (by omega),Bool.true_or]
    rw [this];rfl
   ·refine ev_neg (by omega) ?_
    have : badT l i=false:=by unfold badT;rw [decide_eq_false (by omega),h1];simp
    rw [this,Bool.false_or,inc (by omega)]
    exact spec_l3Texts.ev_l0 l hl d (i+1) (by omega)
  ·refine ev_neg (by omega) (ev_now ?_)
   have : badT l i=true:=by unfold badT;rw [bne_iff_ne.2 h1,Bool.or_true]
   rw [this];rfl
theorem spec_l3Texts.ev (l : List ByteArray) (hl : l.length < 4611686018427387904) : Ev (fun k=>spec_l3Texts.f k l) (textsOk l):=by
 unfold spec_l3Texts.f
 have:=spec_l3Texts.ev_l0 l hl l.length 0 (by omega)
 rw [textsOk_bad]
 simpa using this

theorem spec_GoodStripe.ev {D P : List ByteArray} (hD : textsLe 1048576 D) (hP : textsLe 1048576 P) : Ev (fun k=>spec_GoodStripe.f k D P) (goodStripe D P):=by
 unfold spec_GoodStripe.f goodStripe
 have h1:=hD.1
 have h2:=hP.1
 simp only [spec_l1In.ev,Option.bind_some,decide_eq_true_eq]
 by_cases c1 : 1≤(D.length : Int)∧(D.length : Int)≤16
 ·refine ev_pos c1 ?_
  by_cases c2 : 1≤(P.length : Int)∧(P.length : Int)≤4
  ·refine ev_pos c2 (ev_pos (by simp;omega) (ev_pos (by simp;omega) (ev_bind (spec_l3Texts.ev _ (by simp;omega)) (ev_now ?_))))
   rw [decide_eq_true ⟨c1,c2⟩,Bool.true_and,List.nil_append]
  ·refine ev_neg c2 (ev_now ?_)
   rw [decide_eq_false (fun z=>c2 z.2),Bool.false_and]
 ·refine ev_neg c1 (ev_now ?_)
  rw [decide_eq_false (fun z=>c1 z.1),Bool.false_and]

theorem spec_l1Some.ev_l0 (l : List Int) (n : Nat) (hn : n≤16) (hl : l.length≤1048576) (hw : ∀ x ∈ l,(Lit.int .i64 x).wf=true) : ∀ (d i : Nat),i+d=l.length→(∀ j,j < i→riseAt l n j=true)→Ev (fun k=>spec_l1Some.l0 k l (n : Int) l (l.length : Int) (i : Int)) (rising l n)
 | 0,i,hi,ha=>by
  refine Ev.step (fun k=>spec_l1Some.l0.eq_2 _ _ _ _ _ k) ?_
  exact ev_neg (by omega) (ev_now (rising_yes (fun j hj=>ha j (by omega))).symm)
 | d+1,i,hi,ha=>by
  have e : wrap64 ((n : Int) - 1)=(n : Int) - 1:=by unfold wrap64;omega
  refine Ev.step (fun k=>spec_l1Some.l0.eq_2 _ _ _ _ _ k) ?_
  refine ev_pos (by omega) (ev_pos (by omega) (ev_pos (by omega) ?_))
  simp only [spec_l1In.ev,Option.bind_some,decide_eq_true_eq,e]
  by_cases h : 0≤rd l (i : Int)∧rd l (i : Int)≤(n : Int) - 1
  ·refine ev_pos h ?_
   by_cases h0 : i=0
   ·subst h0
    refine ev_neg (by omega) ?_
    rw [inc (by omega)]
    refine spec_l1Some.ev_l0 l n hn hl hw d 1 (by omega) (fun j hj=>?_)
    have : j=0:=by omega
    subst this
    exact riseAt_yes h (.inl rfl)
   ·have e2 : wrap64 ((i : Int) - 1)=((i - 1 : Nat) : Int):=by unfold wrap64;omega
    refine ev_pos (by omega) ?_
    rw [e2]
    refine ev_pos (by omega) (ev_pos (by omega) ?_)
    by_cases h2 : rd l ((i - 1 : Nat) : Int) ≥ rd l (i : Int)
    ·exact ev_pos h2 (ev_now (rising_no (i:=i) (by omega) (riseAt_no (fun z=>by rcases z.2 with z | z <;> omega))).symm)
    ·refine ev_neg h2 ?_
     rw [inc (by omega)]
     refine spec_l1Some.ev_l0 l n hn hl hw d (i+1) (by omega) (fun j hj=>?_)
     by_cases ej : j=i
     ·subst ej;exact riseAt_yes h (.inr (by omega))
     ·exact ha j (by omega)
  ·exact ev_neg h (ev_now (rising_no (i:=i) (by omega) (riseAt_no (fun z=>h z.1))).symm)
theorem spec_l1Some.ev (l : List Int) (n : Nat) (hn : n≤16) (hl : l.length≤1048576) (hw : ∀ x ∈ l,(Lit.int .i64 x).wf=true) : Ev (fun k=>spec_l1Some.f k l (n : Int)) (rising l n):=by
 unfold spec_l1Some.f
 exact spec_l1Some.ev_l0 l n hn hl hw l.length 0 (by omega) (fun j hj=>absurd hj (by omega))

theorem spec_l6Own.ev {l m : List ByteArray} (hl : l.length < 8796093022208) (hm : m.length < 8796093022208) : spec_l6Own.f l m=some (l,m):=by
 unfold spec_l6Own.f
 simp only [Option.bind_some]
 rw [if_pos (by simpa using hl),if_pos (by simpa using hm),List.nil_append,List.nil_append]

theorem spec_l2Blank.ev_l0 (n m : Nat) (hn : n≤1048576) (hm : m≤1048576) : ∀ (d i : Nat),i+d=n→Ev (fun k=>spec_l2Blank.l0 k (n : Int) (m : Int) (i : Int) (blankM i m)) (blankM n m)
 | 0,i,hi=>by
  obtain rfl : i=n:=by omega
  refine Ev.step (fun k=>spec_l2Blank.l0.eq_2 _ _ _ _ k) ?_
  exact ev_neg (by omega) (ev_now rfl)
 | d+1,i,hi=>by
  have ih:=spec_l2Blank.ev_l0 n m hn hm d (i+1) (by omega)
  refine Ev.step (fun k=>spec_l2Blank.l0.eq_2 _ _ _ _ k) ?_
  refine ev_pos (by omega) (ev_pos (by omega) (ev_pos (by omega) (ev_pos (by simp [blankM];omega) ?_)))
  rw [inc (by omega),Int.toNat_natCast]
  have e : blankM i m ++ [List.replicate m 0]=blankM (i+1) m:=by
   unfold blankM;rw [List.replicate_succ']
  rw [e]
  exact ih
theorem spec_l2Blank.ev (n m : Nat) (hn : n≤1048576) (hm : m≤1048576) : Ev (fun k=>spec_l2Blank.f k (n : Int) (m : Int)) (blankM n m):=by
 unfold spec_l2Blank.f
 exact spec_l2Blank.ev_l0 n m hn hm n 0 (by omega)

theorem spec_l1Times.ev_l0 : ∀ (n o x y : Nat),y < 2 ^ n→n≤8→o < 256→x < 256 →
  Ev (fun k=>spec_l1Times.l0 k (o : Int) (x : Int) (y : Int)) ((T n o x y : Nat) : Int)
 | 0,o,x,y,hy,_,ho,hx=>by
  refine Ev.step (fun k=>spec_l1Times.l0.eq_2 _ _ _ k) ?_
  have : y=0:=by simpa using hy
  subst this
  refine ev_neg (by decide) (ev_now ?_)
  simp only [T]
  omega
 | n+1,o,x,y,hy,hn,ho,hx=>by
  have hy8 : y < 256:=Nat.lt_of_lt_of_le hy (Nat.pow_le_pow_right (n:=2) (by decide) hn)
  by_cases h0 : y=0
  ·subst h0
   refine Ev.step (fun k=>spec_l1Times.l0.eq_2 _ _ _ k) ?_
   refine ev_neg (by decide) (ev_now ?_)
   rw [T_zero]
   omega
  refine Ev.step (fun k=>spec_l1Times.l0.eq_2 _ _ _ k) ?_
  refine ev_pos (by omega) ?_
  have e2 : wrap64 ((x : Int)*2)=((2*x : Nat) : Int):=by rw [wrap_id (by omega) (by omega)];omega
  have e3 : ((y : Int) / 2)=((y / 2 : Nat) : Int):=by omega
  have e4 : Go.bits .xor .i64 (o : Int) (x : Int)=((o ^^^ x : Nat) : Int):=xor_i64 (by omega) (by omega)
  have e5 : Go.bits .xor .i64 ((2*x : Nat) : Int) 283=((2*x ^^^ 283 : Nat) : Int):=xor_i64 (m:=2*x) (n:=283) (by omega) (by omega)
  rw [and1_i64 (by omega),e2,e3,e4,e5]
  have hT : T (n+1) o x y=T n (if y % 2=1 then o ^^^ x else o) (xt x) (y / 2):=by rw [T]
  rw [hT]
  have hxt:=xt_lt hx
  have hox:=xor_lt ho hx
  have hh : y / 2 < 2 ^ n:=by rw [Nat.pow_succ] at hy;omega
  by_cases h1 : y % 2=1
  ·rw [if_pos h1]
   refine ev_pos (by omega) ?_
   by_cases h2 : 2*x > 255
   ·refine ev_pos (by omega) ?_
    have : xt x=2*x ^^^ 283:=by unfold xt;rw [if_pos h2]
    rw [this] at hxt ⊢
    exact spec_l1Times.ev_l0 n _ _ _ hh (by omega) hox hxt
   ·refine ev_neg (by omega) ?_
    have : xt x=2*x:=by unfold xt;rw [if_neg h2]
    rw [this] at hxt ⊢
    exact spec_l1Times.ev_l0 n _ _ _ hh (by omega) hox hxt
  ·rw [if_neg h1]
   refine ev_neg (by omega) ?_
   by_cases h2 : 2*x > 255
   ·refine ev_pos (by omega) ?_
    have : xt x=2*x ^^^ 283:=by unfold xt;rw [if_pos h2]
    rw [this] at hxt ⊢
    exact spec_l1Times.ev_l0 n _ _ _ hh (by omega) ho hxt
   ·refine ev_neg (by omega) ?_
    have : xt x=2*x:=by unfold xt;rw [if_neg h2]
    rw [this] at hxt ⊢
    exact spec_l1Times.ev_l0 n _ _ _ hh (by omega) ho hxt
theorem spec_l1Times.ev {a b : Int} (ha : Byte a) (hb : Byte b) : Ev (fun k=>spec_l1Times.f k a b) (mul a b):=by
 obtain ⟨m,hm,rfl⟩:=ha.nat
 obtain ⟨n,hn,rfl⟩:=hb.nat
 unfold spec_l1Times.f
 rw [wrap_id (i:=(m : Int)) (by omega) (by omega),wrap_id (i:=(n : Int)) (by omega) (by omega)]
 have h:=spec_l1Times.ev_l0 8 0 m n hn (Nat.le_refl _) (by decide) hm
 exact ev_eq h (by unfold Gf.mul gm;simp)

theorem spec_l1Power.ev_l0 (a : Int) (ha : Byte a) : ∀ (n m : Nat),n < 4611686018427387904→Ev (fun k=>spec_l1Power.l0 k a (n : Int) (pow a m)) (pow a (m+n))
 | 0,m,_=>by
  refine Ev.step (fun k=>spec_l1Power.l0.eq_2 _ _ _ k) ?_
  exact ev_neg (by omega) (ev_now rfl)
 | n+1,m,hn=>by
  refine Ev.step (fun k=>spec_l1Power.l0.eq_2 _ _ _ k) ?_
  refine ev_pos (by omega) ?_
  refine ev_bind (spec_l1Times.ev (Byte.pow ha m) ha) ?_
  have e : wrap64 (((n+1 : Nat) : Int) - 1)=(n : Int):=by unfold wrap64;omega
  rw [e,← pow_succ]
  refine ev_eq (spec_l1Power.ev_l0 a ha n (m+1) (by omega)) ?_
  rw [Nat.add_right_comm,Nat.add_assoc]
theorem spec_l1Power.ev {a : Int} (ha : Byte a) (n : Nat) (hn : n < 4611686018427387904) : Ev (fun k=>spec_l1Power.f k a (n : Int)) (pow a n):=by
 unfold spec_l1Power.f
 have:=spec_l1Power.ev_l0 a ha n 0 hn
 rw [pow_zero,Nat.zero_add] at this
 exact this

theorem spec_l6Matrix.ev_l1 (n m : Nat) (hn : n≤1048576) (hm : m≤1048576) (i : Nat) (hi : i < n) {R : List (List Int)}
  (K : Ev (fun k=>spec_l6Matrix.l0 k (n : Int) (wrap64 ((i : Int)+1)) (filPart n m parAt (i+1) 0)) R) : ∀ (d j : Nat),j+d=m →
  Ev (fun k=>spec_l6Matrix.l1 k (i : Int) (n : Int) (i : Int) (m : Int) (j : Int) (filPart n m parAt i j)) R
 | 0,j,hj=>by
  refine Ev.step (fun k=>spec_l6Matrix.l1.eq_2 _ _ _ _ _ _ k) ?_
  refine ev_neg (by omega) ?_
  rw [show j=m by omega,filPart_next]
  exact K
 | d+1,j,hj=>by
  have hl:=filPart_length n m parAt i j
  have hr:=filPart_row (f:=parAt) (m:=m) (i:=i) (j:=j) hi
  refine Ev.step (fun k=>spec_l6Matrix.l1.eq_2 _ _ _ _ _ _ k) ?_
  simp only [rdSS0,Int.toNat_natCast]
  refine ev_pos (by omega) (ev_pos (by omega) (ev_pos (by omega) ?_))
  refine ev_bind (spec_l1Power.ev byte3 i (by omega)) (ev_bind (spec_l1Power.ev (Byte.pow byte3 i) j (by omega)) ?_)
  refine ev_pos (by omega) (ev_pos (by omega) ?_)
  rw [inc (by omega),show pow (pow 3 i) j=parAt i j from rfl,filPart_set parAt hi]
  exact spec_l6Matrix.ev_l1 n m hn hm i hi K d (j+1) (by omega)
theorem spec_l6Matrix.ev_l0 (n m : Nat) (hn : n≤1048576) (hm : m≤1048576) : ∀ (d i : Nat),i+d=n→Ev (fun k=>spec_l6Matrix.l0 k (n : Int) (i : Int) (filPart n m parAt i 0)) (tab n m parAt)
 | 0,i,hi=>by
  refine Ev.step (fun k=>spec_l6Matrix.l0.eq_2 _ _ _ k) ?_
  refine ev_neg (by omega) (ev_now ?_)
  rw [show i=n by omega,filPart_all]
 | d+1,i,hi=>by
  have hl:=filPart_length n m parAt i 0
  have hr:=filPart_row (f:=parAt) (m:=m) (i:=i) (j:=0) (show i < n by omega)
  have ih:=spec_l6Matrix.ev_l0 n m hn hm d (i+1) (by omega)
  refine Ev.step (fun k=>spec_l6Matrix.l0.eq_2 _ _ _ k) ?_
  simp only [rdSS0,Int.toNat_natCast]
  refine ev_pos (by omega) (ev_pos (by omega) (ev_pos (by omega) ?_))
  rw [hr]
  exact spec_l6Matrix.ev_l1 n m hn hm i (by omega) (by rw [inc (by omega)];exact ih) m 0 (by omega)
theorem spec_l6Matrix.ev (n m : Nat) (hn : n≤1048576) (hm : m≤1048576) : Ev (fun k=>spec_l6Matrix.f k (m : Int) (n : Int)) (tab n m parAt):=by
 unfold spec_l6Matrix.f
 refine ev_bind (spec_l2Blank.ev n m (by omega) (by omega)) ?_
 have e : ((blankM n m).length : Int)=(n : Int):=by simp [blankM]
 rw [e,filPart_zero n m parAt]
 exact spec_l6Matrix.ev_l0 n m hn hm n 0 (by omega)

theorem spec_l3Rows.ev_l2 (D : List ByteArray) (b s v : List Int) (hb : Bytes b) (f : Int) (hf : Byte f) (a : Nat) (ha : a < D.length) (hs : (txt D a).size=b.length) (hbl : b.length < 4611686018427387904) (hv : v=addV b (scale f (bytesOf (txt D a)))) (out : List ByteArray) (R : List (List Int)) (x14 x15 : Int) (x24 : List Int) (x25 x26 : Int) {Z : List ByteArray}
  (K : Ev (fun k=>spec_l3Rows.l1 k D out v R x14 x15 x24 x25 (wrap64 (x26+1))) Z) : ∀ (d j : Nat),j+d=b.length →
  Ev (fun k=>spec_l3Rows.l2 k D out (v.take j ++ b.drop j) (a : Int) f R x14 x15 x24 x25 x26 (b.length : Int) (j : Int)) Z
 | 0,j,hj=>by
  have hvl : v.length=b.length:=by rw [hv,addV_length,scale_length,bytesOf_length];omega
  refine Ev.step (fun k=>spec_l3Rows.l2.eq_2 _ _ _ _ _ _ _ _ _ _ _ _ _ k) ?_
  refine ev_neg (by omega) ?_
  rw [List.take_of_length_le (by omega),List.drop_of_length_le (by omega),List.append_nil]
  exact K
 | d+1,j,hj=>by
  have hvl : v.length=b.length:=by rw [hv,addV_length,scale_length,bytesOf_length];omega
  have hh:=half_length hvl (show j≤b.length by omega)
  refine Ev.step (fun k=>spec_l3Rows.l2.eq_2 _ _ _ _ _ _ _ _ _ _ _ _ _ k) ?_
  rw [half_get hvl (by omega)]
  simp only [rdOf_nat]
  refine ev_pos (by omega) (ev_pos (by omega) (ev_pos (by omega) (ev_pos (by omega) (ev_pos (by omega) (ev_pos (by omega) ?_)))))
  refine ev_bind (spec_l1Times.ev hf (bt_byte _ _)) ?_
  rw [xor_u8 (bytes_getD hb j) (Byte.mul hf _),inc (by omega),Int.toNat_natCast,bt_getD]
  have e : gx (b.getD j 0) (mul f ((bytesOf (txt D a)).getD j 0))=v.getD j 0:=by
   rw [hv,addV_getD (by rw [scale_length,bytesOf_length];omega) (by omega),scale_getD (by rw [bytesOf_length];omega)]
  rw [e,half_set hvl (by omega)]
  exact spec_l3Rows.ev_l2 D b s v hb f hf a ha hs hbl hv out R x14 x15 x24 x25 x26 K d (j+1) (by omega)
theorem spec_l3Rows.ev_l1 (D : List ByteArray) (hD : ∀ j,j < D.length→(txt D j).size=(txt D 0).size) (hs : (txt D 0).size < 140737488355328) (hl : D.length < 4611686018427387904) (r : List Int) (hr : Bytes r) (hrl : r.length=D.length) (out : List ByteArray) (ho : out.length < 8796093022208)
  (R : List (List Int)) (x14 x15 : Int) {Z : List ByteArray} (K : Ev (fun k=>spec_l3Rows.l0 k D (out ++ [strOfNums (mixTo r D (txt D 0).size D.length)]) R x14 (wrap64 (x15+1))) Z) : ∀ (d j : Nat),j+d=D.length →
  Ev (fun k=>spec_l3Rows.l1 k D out (mixTo r D (txt D 0).size j) R x14 x15 r (r.length : Int) (j : Int)) Z
 | 0,j,hj=>by
  have e : j=D.length:=by omega
  subst e
  refine Ev.step (fun k=>spec_l3Rows.l1.eq_2 _ _ _ _ _ _ _ _ _ k) ?_
  exact ev_neg (by omega) (ev_pos ho K)
 | d+1,j,hj=>by
  obtain ⟨h1,h2⟩:=mixTo_ok (n:=(txt D 0).size) hr hD j (by omega)
  have h3:=hD j (by omega)
  have ih:=spec_l3Rows.ev_l1 D hD hs hl r hr hrl out ho R x14 x15 K d (j+1) (by omega)
  refine Ev.step (fun k=>spec_l3Rows.l1.eq_2 _ _ _ _ _ _ _ _ _ k) ?_
  refine ev_pos (by omega) (ev_pos (by omega) (ev_pos (by omega) ?_))
  have:=spec_l3Rows.ev_l2 D (mixTo r D (txt D 0).size j) [] (mixTo r D (txt D 0).size (j+1)) h1 (rd r (j : Int)) (bytes_rd hr (by omega)) j (by omega) (by omega) (by omega) (by rw [rd_nat];rfl) out R x14 x15 r (r.length : Int) (j : Int) (by rw [inc (by omega)];exact ih) (mixTo r D (txt D 0).size j).length 0 (by omega)
  simpa using this
theorem spec_l3Rows.ev_l0 (D : List ByteArray) (hp : 0 < D.length) (hD : ∀ j,j < D.length→(txt D j).size=(txt D 0).size) (hs : (txt D 0).size < 140737488355328) (hl : D.length < 4611686018427387904) (R : List (List Int)) (hR : ∀ r ∈ R,Bytes r∧r.length=D.length) (hRl : R.length < 8796093022208) : ∀ (d i : Nat),i+d=R.length →
  Ev (fun k=>spec_l3Rows.l0 k D ((mixT R D).take i) R (R.length : Int) (i : Int)) (mixT R D)
 | 0,i,hi=>by
  have hz:=mixT_length R D
  refine Ev.step (fun k=>spec_l3Rows.l0.eq_2 _ _ _ _ _ k) ?_
  refine ev_neg (by omega) (ev_now ?_)
  rw [List.take_of_length_le (by omega)]
 | d+1,i,hi=>by
  have hz:=mixT_length R D
  have hlt : i < R.length:=by omega
  have hm:=hR _ (List.getElem_mem hlt)
  refine Ev.step (fun k=>spec_l3Rows.l0.eq_2 _ _ _ _ _ k) ?_
  simp only [rdOf_zero,Int.toNat_natCast]
  rw [rdSS R i hlt]
  refine ev_pos (by omega) (ev_pos (by omega) (ev_pos (by omega) (ev_pos (by omega) (ev_pos (by omega) (ev_pos (by omega) ?_)))))
  refine spec_l3Rows.ev_l1 D hD hs hl R[i] hm.1 hm.2 _ (by rw [List.length_take];omega) R _ _ ?_ D.length 0 (by omega)
  rw [inc (by omega)]
  have e : (mixT R D).take i ++ [strOfNums (mixTo R[i] D (txt D 0).size D.length)]=(mixT R D).take (i+1):=by
   rw [List.take_succ_eq_append_getElem (by omega)]
   simp [mixT]
  rw [e]
  exact spec_l3Rows.ev_l0 D hp hD hs hl R hR hRl d (i+1) (by omega)
theorem spec_l3Rows.ev {D : List ByteArray} (hp : 0 < D.length) (hD : ∀ j,j < D.length→(txt D j).size=(txt D 0).size) (hs : (txt D 0).size < 140737488355328) (hl : D.length < 4611686018427387904) {R : List (List Int)} (hR : ∀ r ∈ R,Bytes r∧r.length=D.length) (hRl : R.length < 8796093022208) : Ev (fun k=>spec_l3Rows.f k R D) (mixT R D):=by
 unfold spec_l3Rows.f
 exact spec_l3Rows.ev_l0 D hp hD hs hl R hR hRl R.length 0 (by omega)

theorem spec_l6Plus.ev_l {a b : ByteArray} {f : Int} (hf : Byte f) (h : a.size≤b.size) : ∀ n,n≤a.size→Ev (fun k=>spec_l6Plus.l k a f b n) ((addV (bytesOf a) (scale f (bytesOf b))).take n)
 | 0,_=>ev_now rfl
 | n+1,hn=>by
  have hz : (addV (bytesOf a) (scale f (bytesOf b))).length=a.size:=by rw [addV_length,scale_length,bytesOf_length,bytesOf_length];omega
  show Ev (fun k=>(spec_l6Plus.l k a f b n).bind _) _
  refine ev_bind (spec_l6Plus.ev_l hf h n (by omega)) (ev_bind (spec_l1Times.ev hf (bt_byte b _)) (ev_now ?_))
  rw [List.take_succ_eq_append_getElem (by omega),xor_u8 (bt_byte a _) (Byte.mul hf _),bt_getD,bt_getD]
  congr 2
  have e1 : (bytesOf a).getD n 0=(bytesOf a)[n]'(by rw [bytesOf_length];omega):=by rw [List.getD_eq_getElem?_getD,List.getElem?_eq_getElem (by rw [bytesOf_length];omega)];rfl
  have e2 : (bytesOf b).getD n 0=(bytesOf b)[n]'(by rw [bytesOf_length];omega):=by rw [List.getD_eq_getElem?_getD,List.getElem?_eq_getElem (by rw [bytesOf_length];omega)];rfl
  rw [e1,e2]
  simp [addV,scale]
theorem spec_l6Plus.ev {a b : ByteArray} {f : Int} (hf : Byte f) (h : a.size≤b.size) (hs : a.size≤140737488355328) : Ev (fun k=>spec_l6Plus.f k a f b) (strOfNums (addV (bytesOf a) (scale f (bytesOf b)))):=by
 unfold spec_l6Plus.f
 refine ev_pos ⟨hs,h⟩ (ev_bind (spec_l6Plus.ev_l hf h a.size (Nat.le_refl _)) (ev_now ?_))
 rw [List.take_of_length_le (by rw [addV_length,bytesOf_length];omega)]

theorem spec_l1Add.ev_l0 (v w : List Int) (hv : Bytes v) (hw : Bytes w) (hl : v.length=w.length) (hs : v.length < 140737488355328) : ∀ (n i : Nat) (o : List Int),i+n=v.length→o=(addV v w).take i →
  Ev (fun k=>spec_l1Add.l0 k v w o (v.length : Int) (i : Int)) (addV v w)
 | 0,i,o,hi,ho=>by
  refine Ev.step (fun k=>spec_l1Add.l0.eq_2 _ _ _ _ _ k) ?_
  refine ev_neg (by omega) (ev_now ?_)
  subst ho
  rw [List.take_of_length_le (by rw [addV_length];omega)]
 | n+1,i,o,hi,ho=>by
  have hz:=addV_length v w
  have hlen : o.length=i:=by rw [ho,List.length_take,hz];omega
  refine Ev.step (fun k=>spec_l1Add.l0.eq_2 _ _ _ _ _ k) ?_
  refine ev_pos (by omega) (ev_pos (by omega) (ev_pos (by omega) (ev_pos (by omega) (ev_pos (by omega) ?_))))
  rw [inc (by omega),xor_u8 (bytes_rd hv (by omega)) (bytes_rd hw (by omega)),rd_get (by omega),rd_get (by omega)]
  refine spec_l1Add.ev_l0 v w hv hw hl hs n (i+1) _ (by omega) ?_
  rw [List.take_succ_eq_append_getElem (by omega),← ho]
  simp [addV]
theorem spec_l1Add.ev {v w : List Int} (hv : Bytes v) (hw : Bytes w) (hl : v.length=w.length) (hs : v.length < 140737488355328) : Ev (fun k=>spec_l1Add.f k v w) (addV v w):=by
 unfold spec_l1Add.f
 exact spec_l1Add.ev_l0 v w hv hw hl hs v.length 0 [] (by omega) rfl

theorem spec_l1Scale.ev_l0 (a : Int) (ha : Byte a) (v : List Int) (hv : Bytes v) (hs : v.length < 140737488355328) : ∀ (n i : Nat) (o : List Int),i+n=v.length→o=(scale a v).take i →
  Ev (fun k=>spec_l1Scale.l0 k a o v (v.length : Int) (i : Int)) (scale a v)
 | 0,i,o,hi,ho=>by
  refine Ev.step (fun k=>spec_l1Scale.l0.eq_2 _ _ _ _ _ k) ?_
  refine ev_neg (by omega) (ev_now ?_)
  subst ho
  rw [List.take_of_length_le (by rw [scale_length];omega)]
 | n+1,i,o,hi,ho=>by
  have hz:=scale_length a v
  have hlen : o.length=i:=by rw [ho,List.length_take,hz];omega
  refine Ev.step (fun k=>spec_l1Scale.l0.eq_2 _ _ _ _ _ k) ?_
  refine ev_pos (by omega) (ev_pos (by omega) (ev_pos (by omega) ?_))
  refine ev_bind (spec_l1Times.ev ha (bytes_rd hv (by omega))) ?_
  refine ev_pos (by omega) ?_
  rw [inc (by omega),rd_get (by omega)]
  refine spec_l1Scale.ev_l0 a ha v hv hs n (i+1) _ (by omega) ?_
  rw [List.take_succ_eq_append_getElem (by omega),← ho]
  simp [scale]
theorem spec_l1Scale.ev {a : Int} (ha : Byte a) {v : List Int} (hv : Bytes v) (hs : v.length < 140737488355328) : Ev (fun k=>spec_l1Scale.f k a v) (scale a v):=by
 unfold spec_l1Scale.f
 exact spec_l1Scale.ev_l0 a ha v hv hs v.length 0 [] (by omega) rfl

theorem spec_l2Own.ev_l0 (l : List (List Int)) (hl : l.length≤1048576) (hr : ∀ r ∈ l,r.length≤1048576) : ∀ (d i : Nat) (o : List (List Int)),i+d=l.length→o=l.take i→Ev (fun k=>spec_l2Own.l0 k l (l.length : Int) (i : Int) o) l
 | 0,i,o,hi,ho=>by
  refine Ev.step (fun k=>spec_l2Own.l0.eq_2 _ _ _ _ k) ?_
  refine ev_neg (by omega) (ev_now ?_)
  rw [ho,List.take_of_length_le (by omega)]
 | d+1,i,o,hi,ho=>by
  have hol : o.length=i:=by rw [ho,List.length_take];omega
  have hrl : (l.getD i []).length≤1048576:=by
   rw [List.getD_eq_getElem?_getD,List.getElem?_eq_getElem (show i < l.length by omega)]
   exact hr _ (List.getElem_mem _)
  refine Ev.step (fun k=>spec_l2Own.l0.eq_2 _ _ _ _ k) ?_
  simp only [Option.bind_some]
  refine ev_pos (by omega) (ev_pos (by omega) (ev_pos (by omega) (ev_pos (show ([] : List Int).length+(l.getD i []).length < 140737488355328 by simp only [List.length_nil];omega) (ev_pos (by omega) ?_))))
  rw [inc (by omega)]
  refine spec_l2Own.ev_l0 l hl hr d (i+1) _ (by omega) ?_
  rw [List.take_succ_eq_append_getElem (show i < l.length by omega),← ho,show l[i]'(by omega)=l.getD i [] by rw [List.getD_eq_getElem?_getD,List.getElem?_eq_getElem (show i < l.length by omega)];rfl]
  rfl
theorem spec_l2Own.ev (l : List (List Int)) (hl : l.length≤1048576) (hr : ∀ r ∈ l,r.length≤1048576) : Ev (fun k=>spec_l2Own.f k l) l:=by
 unfold spec_l2Own.f
 exact spec_l2Own.ev_l0 l hl hr l.length 0 [] (by omega) rfl

theorem spec_l1Inverse.ev {a : Int} (ha : Byte a) : Ev (fun k=>spec_l1Inverse.f k a) (inv a):=by
 unfold spec_l1Inverse.f
 by_cases h : a=0
 ·subst h
  exact ev_pos rfl (ev_now inv_zero.symm)
 ·exact ev_neg h (ev_bind (spec_l1Power.ev ha 254 (by decide)) (ev_now (inv_pow a).symm))

def idPart (n i : Nat) : List (List Int):=(List.range n).map fun j=>if j < i then (List.replicate n 0).set j 1 else List.replicate n 0
theorem idPart_length (n i : Nat) : (idPart n i).length=n:=by simp [idPart]
theorem idPart_zero (n : Nat) : idPart n 0=blankM n n:=by
 apply List.ext_getElem
 ·simp [idPart,blankM]
 ·intro j h1 h2;simp [idPart,blankM]
theorem idPart_all (n : Nat) : idPart n n=idM n:=by
 apply List.ext_getElem
 ·simp [idPart,idM]
 ·intro j h1 h2
  have : j < n:=by simpa [idPart] using h1
  simp [idPart,idM,this]
theorem idPart_succ (n i : Nat) (hi : i < n) : (idPart n i).set i ((List.replicate n 0).set i 1)=idPart n (i+1):=by
 apply List.ext_getElem
 ·simp [idPart]
 ·intro j h1 h2
  rw [List.getElem_set]
  by_cases e : i=j
  ·subst e
   simp [idPart]
  ·rw [if_neg e]
   simp only [idPart,List.getElem_map,List.getElem_range]
   by_cases h : j < i
   ·rw [if_pos h,if_pos (by omega)]
   ·rw [if_neg h,if_neg (by omega)]
theorem spec_l2Identity.ev_l0 (n : Nat) (hn : n≤1048576) : ∀ (d i : Nat),i+d=n→Ev (fun k=>spec_l2Identity.l0 k (n : Int) (i : Int) (idPart n i)) (idM n)
 | 0,i,hi=>by
  obtain rfl : i=n:=by omega
  refine Ev.step (fun k=>spec_l2Identity.l0.eq_2 _ _ _ k) ?_
  exact ev_neg (by omega) (ev_now (idPart_all i))
 | d+1,i,hi=>by
  have hl:=idPart_length n i
  have hg : rd_L3 (idPart n i) (i : Int)=List.replicate n 0:=by
   rw [rdSS _ i (by omega)]
   simp [idPart]
  have ih:=spec_l2Identity.ev_l0 n hn d (i+1) (by omega)
  refine Ev.step (fun k=>spec_l2Identity.l0.eq_2 _ _ _ k) ?_
  rw [hg]
  refine ev_pos (by omega) (ev_pos (by omega) (ev_pos (by omega) (ev_pos (by simp;omega) ?_)))
  rw [inc (by omega),Int.toNat_natCast,idPart_succ n i (by omega)]
  exact ih
theorem spec_l2Identity.ev (n : Nat) (hn : n≤1048576) : Ev (fun k=>spec_l2Identity.f k (n : Int)) (idM n):=by
 unfold spec_l2Identity.f
 refine ev_bind (spec_l2Blank.ev n n hn hn) ?_
 have e : ((blankM n n).length : Int)=(n : Int):=by simp [blankM]
 rw [e,← idPart_zero]
 exact spec_l2Identity.ev_l0 n hn n 0 (by omega)

theorem sqM_good {l : List (List Int)} (h : goodM l=true) (hb : matBytes l) : sqM l=true:=by
 obtain ⟨h1,h2,h3⟩:=goodM_iff h
 refine sqM_iff.2 ⟨by omega,by omega,fun r hr=>⟨hb r hr,?_⟩⟩
 obtain ⟨i,hi,rfl⟩:=List.getElem_of_mem hr
 have:=h3 i hi
 rw [List.getD_eq_getElem?_getD,List.getElem?_eq_getElem hi] at this
 exact this
theorem matBytes_of {l : List (List Int)} (h : ∀ r ∈ l,(r.length≤maxLen∧∀ x ∈ r,(Lit.int .u8 x).wf=true)) : matBytes l:=fun r hr=>Bytes.of_wf (h r hr).2
theorem sqN_good {l : List (List Int)} (h : goodM l=true) (hb : matBytes l) (e : l.length=(l.getD 0 []).length) : sqN l=true:=by
 unfold sqN
 rw [sqM_good h hb,decide_eq_true (goodM_iff h).1.1,decide_eq_true e.symm]
 rfl
theorem spec_l2Inverse.ev {l : List (List Int)} (hs : sqN l=true) : spec_l2Inverse.f l=some ((redP l (idM l.length) l.length).1.map Prod.snd,decide ((redP l (idM l.length) l.length).2=l.length)):=by
 unfold spec_l2Inverse.f
 rw [if_pos hs]
theorem invM_yes {l : List (List Int)} (h : (redP l (idM l.length) l.length).2=l.length) : invM l=((redP l (idM l.length) l.length).1.map Prod.snd,true):=by
 unfold invM
 rw [if_neg (by omega)]
theorem invM_no {l : List (List Int)} (h : ¬ (redP l (idM l.length) l.length).2=l.length) : invM l=([],false):=by
 unfold invM
 have:=red_rank_le l (idM l.length) l.length
 rw [if_pos (by omega)]
theorem invM_ok {l : List (List Int)} (h : sqN l=true) : ((invM l).2=true→(invM l).1.length=l.length)∧(∀ r ∈ (invM l).1,okI l.length r)∧(invM l).1.length≤l.length:=by
 obtain ⟨h1,h2,h3⟩:=sqN_iff.1 h
 by_cases e : (redP l (idM l.length) l.length).2=l.length
 ·rw [invM_yes e]
  have hl : ((redP l (idM l.length) l.length).1.map Prod.snd).length=l.length:=by rw [List.length_map,redP_length _ _ _ (by rw [KitN.idM_length])]
  exact ⟨fun _=>hl,snd_all (redP_ok (n:=l.length) h3 (idM_ok l.length)),by show ((redP l (idM l.length) l.length).1.map Prod.snd).length≤_;omega⟩
 ·rw [invM_no e]
  exact ⟨fun z=>(by cases z),fun r hr=>(by cases hr),Nat.zero_le _⟩

theorem spec_l2Part.ev_l1 (m : List (List Int)) (c : List Int) (hg : goodM m=true) (hc : c.length≤1048576) (hcn : ∀ j,j < c.length→0≤rd c (j : Int)∧rd c (j : Int) < ((m.getD 0 []).length : Int)) (r : List Int) (i a : Nat) (ha : a < m.length) (out : List (List Int)) (ho : out.length < 5864062014805) {R : List (List Int)}
  (K : Ev (fun k=>spec_l2Part.l0 k c r (r.length : Int) (wrap64 ((i : Int)+1)) m (out ++ [partRow m c a])) R) : ∀ (d j : Nat) (o : List Int),j+d=c.length→o=(partRow m c a).take j →
  Ev (fun k=>spec_l2Part.l1 k c (a : Int) o r (r.length : Int) (i : Int) c (c.length : Int) (j : Int) m out) R
 | 0,j,o,hj,hoj=>by
  refine Ev.step (fun k=>spec_l2Part.l1.eq_2 _ _ _ _ _ _ _ _ _ _ _ k) ?_
  refine ev_neg (by omega) (ev_pos ho ?_)
  rw [hoj,List.take_of_length_le (by rw [partRow_length];omega)]
  exact K
 | d+1,j,o,hj,hoj=>by
  have hf:=goodM_iff hg
  have e:=hf.2.2 a ha
  have h2:=hcn j (by omega)
  have hol : o.length=j:=by rw [hoj,List.length_take,partRow_length];omega
  refine Ev.step (fun k=>spec_l2Part.l1.eq_2 _ _ _ _ _ _ _ _ _ _ _ k) ?_
  simp only [rdSS0,Int.toNat_natCast]
  refine ev_pos (by omega) (ev_pos (by omega) (ev_pos (by omega) (ev_pos (by omega) (ev_pos (by omega) (ev_pos h2.1 (ev_pos (by omega) (ev_pos (by omega) ?_)))))))
  rw [inc (by omega)]
  exact spec_l2Part.ev_l1 m c hg hc hcn r i a ha out ho K d (j+1) _ (by omega) (by rw [partRow_succ m c a j (by omega),← hoj])
theorem spec_l2Part.ev_l0 (m : List (List Int)) (c r : List Int) (hg : goodM m=true) (hc : c.length≤1048576) (hr : r.length≤1048576) (hcn : ∀ j,j < c.length→0≤rd c (j : Int)∧rd c (j : Int) < ((m.getD 0 []).length : Int)) (hrn : ∀ j,j < r.length→0≤rd r (j : Int)∧rd r (j : Int) < (m.length : Int)) : ∀ (d i : Nat) (out : List (List Int)),i+d=r.length→out=(partM m r c).take i →
  Ev (fun k=>spec_l2Part.l0 k c r (r.length : Int) (i : Int) m out) (partM m r c)
 | 0,i,out,hi,ho=>by
  refine Ev.step (fun k=>spec_l2Part.l0.eq_2 _ _ _ _ _ _ k) ?_
  refine ev_neg (by omega) (ev_now ?_)
  rw [ho,List.take_of_length_le (by rw [partM_length];omega)]
 | d+1,i,out,hi,ho=>by
  have h2:=hrn i (by omega)
  have hol : out.length=i:=by rw [ho,List.length_take,partM_length];omega
  obtain ⟨a,ha⟩:=Int.eq_ofNat_of_zero_le h2.1
  refine Ev.step (fun k=>spec_l2Part.l0.eq_2 _ _ _ _ _ _ k) ?_
  refine ev_pos (by omega) (ev_pos (by omega) (ev_pos (by omega) ?_))
  have ih:=spec_l2Part.ev_l0 m c r hg hc hr hcn hrn d (i+1) (out ++ [partRow m c a]) (by omega) (by rw [partM_succ m r c i (by omega),← ho,ha,Int.toNat_natCast])
  rw [ha]
  exact spec_l2Part.ev_l1 m c hg hc hcn r i a (by omega) out (by omega) (by rw [inc (by omega)];exact ih) c.length 0 [] (by omega) rfl
theorem spec_l2Part.ev (m : List (List Int)) (r c : List Int) (hg : goodM m=true) (hc : c.length≤1048576) (hr : r.length≤1048576) (hcn : ∀ j,j < c.length→0≤rd c (j : Int)∧rd c (j : Int) < ((m.getD 0 []).length : Int)) (hrn : ∀ j,j < r.length→0≤rd r (j : Int)∧rd r (j : Int) < (m.length : Int)) : Ev (fun k=>spec_l2Part.f k m r c) (partM m r c):=by
 unfold spec_l2Part.f
 exact spec_l2Part.ev_l0 m c r hg hc hr hcn hrn r.length 0 [] (by omega) rfl

def allI (n : Nat) : List Int:=(List.range n).map fun i=>((i : Nat) : Int)
theorem allI_length (n : Nat) : (allI n).length=n:=by simp [allI]
theorem allI_rd {n i : Nat} (h : i < n) : rd (allI n) (i : Int)=(i : Int):=by rw [rd_nat];simp [allI,List.getD,h]
theorem spec_l3All.ev_l0 (n : Nat) (hn : n≤1048576) : ∀ (d i : Nat) (o : List Int),i+d=n→o=allI i→Ev (fun k=>spec_l3All.l0 k (n : Int) o (i : Int)) (allI n)
 | 0,i,o,hi,ho=>by
  refine Ev.step (fun k=>spec_l3All.l0.eq_2 _ _ _ k) ?_
  obtain rfl : i=n:=by omega
  exact ev_neg (by omega) (ev_now ho)
 | d+1,i,o,hi,ho=>by
  have hl : o.length=i:=by rw [ho,allI_length]
  refine Ev.step (fun k=>spec_l3All.l0.eq_2 _ _ _ k) ?_
  refine ev_pos (by omega) (ev_pos (by omega) ?_)
  rw [inc (by omega)]
  refine spec_l3All.ev_l0 n hn d (i+1) _ (by omega) ?_
  rw [ho];simp [allI,List.range_succ]
theorem spec_l3All.ev (n : Nat) (hn : n≤1048576) : Ev (fun k=>spec_l3All.f k (n : Int)) (allI n):=by
 unfold spec_l3All.f
 exact spec_l3All.ev_l0 n hn n 0 [] (by omega) rfl
/-- Some rows. -/
def someM (M : List (List Int)) (l : List Int) : List (List Int):=l.map fun x=>M.getD x.toNat []
theorem someM_length (M : List (List Int)) (l : List Int) : (someM M l).length=l.length:=by simp [someM]
theorem someM_ok {M : List (List Int)} {n : Nat} {l : List Int} (hM : ∀ r ∈ M,Bytes r∧r.length=n) (hl : ∀ j,j < l.length→0≤rd l (j : Int)∧rd l (j : Int) < (M.length : Int)) : ∀ r ∈ someM M l,okI n r:=by
 intro r hr
 obtain ⟨x,hx,rfl⟩:=List.mem_map.1 hr
 obtain ⟨j,hj,rfl⟩:=List.getElem_of_mem hx
 have h1:=hl j hj
 rw [rd_get hj] at h1
 have h2 : (l[j]).toNat < M.length:=by omega
 rw [List.getD_eq_getElem?_getD,List.getElem?_eq_getElem h2]
 exact hM _ (List.getElem_mem h2)
theorem someM_succ (M : List (List Int)) {l : List Int} {i : Nat} (h : i < l.length) : (someM M l).take (i+1)=(someM M l).take i ++ [M.getD (rd l (i : Int)).toNat []]:=by
 rw [List.take_succ_eq_append_getElem (by rw [someM_length];exact h)]
 simp [someM,rd_get h]
theorem partM_some {M : List (List Int)} {n : Nat} {l : List Int} (hM : ∀ r ∈ M,Bytes r∧r.length=n) (hl : ∀ j,j < l.length→0≤rd l (j : Int)∧rd l (j : Int) < (M.length : Int)) : partM M l (allI n)=someM M l:=by
 apply List.ext_getElem
 ·rw [partM_length,someM_length]
 ·intro i h1 h2
  have hi : i < l.length:=by rw [partM_length] at h1;exact h1
  have h3:=hl i hi
  have h4 : (rd l (i : Int)).toNat < M.length:=by omega
  simp only [partM,someM,List.getElem_map,List.getElem_range]
  rw [← rd_get hi]
  unfold partRow
  rw [allI_length]
  have hr : M.getD (rd l (i : Int)).toNat [] ∈ M:=by
   rw [List.getD_eq_getElem?_getD,List.getElem?_eq_getElem h4]
   exact List.getElem_mem h4
  have hlen:=(hM _ hr).2
  conv=>rhs;rw [row_self hlen]
  apply List.map_congr_left
  intro j hj
  rw [allI_rd (by simpa using hj),rd_nat]
theorem goodM_of {M : List (List Int)} {n : Nat} (hM : ∀ r ∈ M,Bytes r∧r.length=n) (h1 : 1≤M.length) (h2 : M.length≤16) (h3 : 1≤n) (h4 : n≤16) : goodM M=true:=by
 have hat : ∀ i,i < M.length→(M.getD i []).length=n:=fun i hi=>by
  rw [List.getD_eq_getElem?_getD,List.getElem?_eq_getElem hi]
  exact (hM _ (List.getElem_mem hi)).2
 unfold goodM
 have h0:=hat 0 (by omega)
 rw [Bool.and_eq_true,decide_eq_true_eq]
 refine ⟨by omega,?_⟩
 have : ((List.range M.length).any fun i=>(M.getD i []).length != (M.getD 0 []).length)=false:=by
  rw [List.any_eq_false]
  intro x hx
  rw [hat x (by simpa using hx),h0]
  simp
 rw [this];rfl

def Zt (s : Nat) : ByteArray:=strOfNums (List.replicate s 0)
theorem Zt_size (s : Nat) : (Zt s).size=s:=by unfold Zt;rw [strOfNums_size,List.length_replicate]
theorem txt_set (l : List ByteArray) (i j : Nat) (x : ByteArray) : txt (l.set i x) j=if j=i∧i < l.length then x else txt l j:=by
 unfold txt
 rw [List.getD_eq_getElem?_getD,List.getElem?_set]
 by_cases h : i=j
 ·subst h
  by_cases h2 : i < l.length
  ·rw [if_pos rfl,if_pos h2,if_pos ⟨rfl,h2⟩];rfl
  ·rw [if_pos rfl,if_neg h2,if_neg (fun z=>h2 z.2),List.getD_eq_getElem?_getD,List.getElem?_eq_none (by omega)]
 ·rw [if_neg h,if_neg (fun z=>h z.1.symm),List.getD_eq_getElem?_getD]
theorem txt_take {l : List ByteArray} {n i : Nat} (h : i < n) : txt (l.take n) i=txt l i:=by
 unfold txt
 rw [List.getD_eq_getElem?_getD,List.getD_eq_getElem?_getD,List.getElem?_take,if_pos h]
def blankT (D : List ByteArray) (L : List Int) (s : Nat) : Nat→List ByteArray
 | 0=>D
 | n+1=>(blankT D L s n).set (rd L (n : Int)).toNat (Zt s)
theorem blankT_length (D : List ByteArray) (L : List Int) (s : Nat) : ∀ n,(blankT D L s n).length=D.length
 | 0=>rfl
 | n+1=>by
  show ((blankT D L s n).set _ _).length=_
  rw [List.length_set,blankT_length D L s n]
theorem blankT_size {D : List ByteArray} {L : List Int} {s : Nat} (h : ∀ j,j < D.length→(txt D j).size=s) : ∀ n j,j < D.length→(txt (blankT D L s n) j).size=s
 | 0,j,hj=>h j hj
 | n+1,j,hj=>by
  show (txt ((blankT D L s n).set _ _) j).size=s
  rw [txt_set]
  split
  ·exact Zt_size s
  ·exact blankT_size h n j hj
def fillT (B : List ByteArray) (L : List Int) (T : List ByteArray) : Nat→List ByteArray
 | 0=>B
 | n+1=>(fillT B L T n).set (rd L (n : Int)).toNat (txt T n)
theorem fillT_length (B : List ByteArray) (L : List Int) (T : List ByteArray) : ∀ n,(fillT B L T n).length=B.length
 | 0=>rfl
 | n+1=>by
  show ((fillT B L T n).set _ _).length=_
  rw [List.length_set,fillT_length B L T n]
def mendB (D : List ByteArray) (L : List Int) : List ByteArray:=blankT D L (txt D 0).size L.length
def mendY (D : List ByteArray) (L : List Int) : List ByteArray:=mixT (tab L.length D.length parAt) (mendB D L)
def mendL (D P : List ByteArray) (L : List Int) : List ByteArray:=sumT (mendY D L) (P.take L.length)
def mendC (D P : List ByteArray) (L : List Int) : List (List Int):=partM (tab P.length D.length parAt) (allI L.length) L
def mendIn (D P : List ByteArray) (L : List Int) : List ByteArray × List ByteArray × Bool :=
 if (invM (mendC D P L)).2=true then (fillT (mendB D L) L (mixT (invM (mendC D P L)).1 (mendL D P L)) L.length,P,true) else ([],[],false)
def mendVal (D P : List ByteArray) (L : List Int) : List ByteArray × List ByteArray × Bool :=
 if goodStripe D P=true∧rising L D.length=true∧L.length≤P.length then (if L.length=0 then (D,P,true) else mendIn D P L) else ([],[],false)
theorem mendY_length (D : List ByteArray) (L : List Int) : (mendY D L).length=L.length:=by unfold mendY;rw [mixT_length,tab_length]
theorem mendL_length (D P : List ByteArray) (L : List Int) : (mendL D P L).length=L.length:=by unfold mendL;rw [sumT_length,mendY_length]
theorem parAt_bytes (n m : Nat) : ∀ r ∈ tab n m parAt,Bytes r∧r.length=m:=parTab_rows n m
theorem tab_take {n m k : Nat} {f : Nat→Nat→Int} (h : k≤n) : (tab n m f).take k=tab k m f:=by
 unfold tab
 rw [← List.map_take,List.take_range,Nat.min_eq_left h]
theorem mixT_take (R : List (List Int)) (D : List ByteArray) (k : Nat) : (mixT R D).take k=mixT (R.take k) D:=by unfold mixT;rw [List.map_take]
theorem mendB_size {D P : List ByteArray} {L : List Int} (h : goodStripe D P=true) : ∀ j,j < (mendB D L).length→(txt (mendB D L) j).size=(txt (mendB D L) 0).size:=by
 obtain ⟨a1,a2,a3,a4⟩:=goodStripe_iff h
 intro j hj
 unfold mendB at *
 rw [blankT_length] at hj
 rw [blankT_size (fun j hj=>(a3 j hj).1) _ j hj,blankT_size (fun j hj=>(a3 j hj).1) _ 0 (by omega)]
theorem mendB_0 {D P : List ByteArray} {L : List Int} (h : goodStripe D P=true) : (txt (mendB D L) 0).size=(txt D 0).size:=by
 obtain ⟨a1,a2,a3,a4⟩:=goodStripe_iff h
 unfold mendB
 exact blankT_size (fun j hj=>(a3 j hj).1) _ 0 (by omega)
theorem mendY_size {D P : List ByteArray} {L : List Int} (h : goodStripe D P=true) : ∀ j,j < L.length→(txt (mendY D L) j).size=(txt D 0).size:=by
 intro j hj
 have e:=mixT_size (R:=tab L.length D.length parAt) (fun r hr=>(parAt_bytes _ _ r hr).1) (mendB_size (L:=L) h) (txt (mendY D L) j) (by
  rw [txt_get (by rw [mendY_length];exact hj)]
  exact List.getElem_mem _)
 rw [e,mendB_0 h]
theorem mendL_size {D P : List ByteArray} {L : List Int} (h : goodStripe D P=true) (hl : L.length≤P.length) : ∀ j,j < L.length→(txt (mendL D P L) j).size=(txt D 0).size:=by
 intro j hj
 obtain ⟨a1,a2,a3,a4⟩:=goodStripe_iff h
 have:=a4 j (by omega)
 unfold mendL
 rw [sumT_get _ _ (by rw [mendY_length];exact hj),plusT_size,mendY_size h j hj,txt_take hj]
 omega
theorem mendC_ok (D P : List ByteArray) (L : List Int) : ∀ r ∈ mendC D P L,okI L.length r:=by
 intro r hr
 unfold mendC partM at hr
 simp only [List.mem_map] at hr
 obtain ⟨i,_,rfl⟩:=hr
 refine ⟨fun x hx=>?_,partRow_length _ _ _⟩
 unfold partRow at hx
 simp only [List.mem_map] at hx
 obtain ⟨j,_,rfl⟩:=hx
 refine bytes_getD ?_ _
 by_cases hi : (rd (allI L.length) (i : Int)).toNat < P.length
 ·rw [tab_getD hi]
  intro y hy
  simp only [List.mem_map] at hy
  obtain ⟨c,_,rfl⟩:=hy
  exact Byte.pow (Byte.pow byte3 _) _
 ·rw [List.getD_eq_getElem?_getD,List.getElem?_eq_none (by rw [tab_length];omega)]
  exact Bytes.nil
theorem mendC_length (D P : List ByteArray) (L : List Int) : (mendC D P L).length=L.length:=by unfold mendC;rw [partM_length,allI_length]
theorem mendC_sq {D P : List ByteArray} {L : List Int} (h1 : 1≤L.length) (h2 : L.length≤1000) : sqN (mendC D P L)=true :=
 sqN_iff.2 ⟨by rw [mendC_length];exact h1,by rw [mendC_length];exact h2,by rw [mendC_length];exact mendC_ok D P L⟩
theorem mendVal_len (D P : List ByteArray) (L : List Int) : (mendVal D P L).1.length≤16∧(mendVal D P L).2.1.length≤16:=by
 unfold mendVal
 split
 ·rename_i h
  obtain ⟨a1,a2,a3,a4⟩:=goodStripe_iff h.1
  split
  ·exact ⟨a1.2,by show P.length≤16;omega⟩
  ·unfold mendIn
   split
   ·refine ⟨?_,by show P.length≤16;omega⟩
    show (fillT _ _ _ _).length≤16
    rw [fillT_length]
    unfold mendB
    rw [blankT_length]
    exact a1.2
   ·exact ⟨by simp,by simp⟩
 ·exact ⟨by simp,by simp⟩
theorem spec_MendStripe.ev_l2 (L : List Int) (B P T : List ByteArray) (hT : T.length=L.length) (hL : ∀ j,j < L.length→0≤rd L (j : Int)∧rd L (j : Int) < (B.length : Int)) (hl : L.length≤1048576) : ∀ (d i : Nat),i+d=L.length →
  Ev (fun k=>spec_MendStripe.l2 k L T (T.length : Int) (i : Int) (fillT B L T i) P) (fillT B L T L.length,P,true)
 | 0,i,hi=>by
  refine Ev.step (fun k=>spec_MendStripe.l2.eq_2 _ _ _ _ _ _ k) ?_
  refine ev_neg (by omega) (ev_now ?_)
  rw [show i=L.length by omega]
 | d+1,i,hi=>by
  have h2:=hL i (by omega)
  refine Ev.step (fun k=>spec_MendStripe.l2.eq_2 _ _ _ _ _ _ k) ?_
  simp only [rdOf_nat]
  refine ev_pos (by omega) (ev_pos (by omega) (ev_pos (by omega) (ev_pos (by omega) (ev_pos h2.1 (ev_pos (by rw [fillT_length];exact h2.2) ?_)))))
  rw [inc (by omega)]
  exact spec_MendStripe.ev_l2 L B P T hT hL hl d (i+1) (by omega)
theorem spec_MendStripe.ev_l1 (L : List Int) (B P Y : List ByteArray) (M : List (List Int)) (hY : Y.length=L.length) (hLP : L.length≤P.length) (hl : L.length≤1048576) (hs : ∀ j,j < L.length→(txt Y j).size=(txt P j).size∧(txt Y j).size≤40) {R : List ByteArray × List ByteArray × Bool}
  (K : Ev (fun k=>(spec_l3All.f k (L.length : Int)).bind fun t259=>((spec_l2Part.f k M t259 L).bind fun t262=>((spec_l2Inverse.f t262).bind fun bt265=>(if bt265.2=true then ((spec_l3Rows.f k bt265.1 (sumT Y (P.take L.length))).bind fun t270=>(spec_MendStripe.l2 k L t270 (t270.length : Int) 0 B P)) else (some (([] : List ByteArray),([] : List ByteArray),false)))))) R) : ∀ (d i : Nat),i+d=L.length →
  Ev (fun k=>spec_MendStripe.l1 k L ((sumT Y (P.take L.length)).take i) Y (Y.length : Int) (i : Int) B P M) R
 | 0,i,hi=>by
  refine Ev.step (fun k=>spec_MendStripe.l1.eq_2 _ _ _ _ _ _ _ _ k) ?_
  refine ev_neg (by omega) ?_
  rw [List.take_of_length_le (by rw [sumT_length];omega)]
  exact K
 | d+1,i,hi=>by
  have h2:=hs i (by omega)
  refine Ev.step (fun k=>spec_MendStripe.l1.eq_2 _ _ _ _ _ _ _ _ k) ?_
  simp only [rdOf_nat]
  refine ev_pos (by omega) (ev_pos (by omega) (ev_pos (by omega) (ev_pos (by omega) ?_)))
  refine ev_bind (spec_l6Plus.ev .one (by omega) (by omega)) (ev_pos (by rw [List.length_take,sumT_length];omega) ?_)
  rw [inc (by omega),show strOfNums (addV (bytesOf (txt Y i)) (scale 1 (bytesOf (txt P i))))=plusT (txt Y i) 1 (txt (P.take L.length) i) by rw [txt_take (by omega)];rfl,← sumT_succ Y (P.take L.length) (by omega)]
  exact spec_MendStripe.ev_l1 L B P Y M hY hLP hl hs K d (i+1) (by omega)
theorem spec_MendStripe.ev_l0 (L : List Int) (D P : List ByteArray) (s : Nat) (hs0 : s≤40) (hs : ∀ j,j < D.length→(txt D j).size=s) (hl : L.length≤1048576) (hL : ∀ j,j < L.length→0≤rd L (j : Int)∧rd L (j : Int) < (D.length : Int)) {R : List ByteArray × List ByteArray × Bool}
  (K : Ev (fun k=>(spec_l6Matrix.f k ((blankT D L s L.length).length : Int) (P.length : Int)).bind fun t241=>((spec_l3Rows.f k t241 (blankT D L s L.length)).bind fun t245=>(if 0≤(L.length : Int) then (if (L.length : Int)≤(t245.length : Int) then ((some (t245.take ((L.length : Int) : Int).toNat : List ByteArray)).bind fun y248=>(spec_MendStripe.l1 k L ([] : List ByteArray) y248 (y248.length : Int) 0 (blankT D L s L.length) P t241)) else (none)) else (none)))) R) : ∀ (d i : Nat),i+d=L.length →
  Ev (fun k=>spec_MendStripe.l0 k L L (L.length : Int) (i : Int) (blankT D L s i) P) R
 | 0,i,hi=>by
  refine Ev.step (fun k=>spec_MendStripe.l0.eq_2 _ _ _ _ _ _ k) ?_
  refine ev_neg (by omega) ?_
  rw [show i=L.length by omega]
  exact K
 | d+1,i,hi=>by
  have h2:=hL i (by omega)
  obtain ⟨a,ha⟩:=Int.eq_ofNat_of_zero_le h2.1
  have hz:=blankT_size hs (L:=L) i a (by omega)
  refine Ev.step (fun k=>spec_MendStripe.l0.eq_2 _ _ _ _ _ _ k) ?_
  simp only [ha,rdOf_nat,hz,Int.toNat_natCast]
  refine ev_pos (by omega) (ev_pos (by omega) (ev_pos (by omega) (ev_pos (by omega) (ev_pos (by rw [blankT_length];omega) (ev_pos (by omega) (ev_pos (by omega) ?_))))))
  rw [inc (by omega)]
  have ih:=spec_MendStripe.ev_l0 L D P s hs0 hs hl hL K d (i+1) (by omega)
  have e : blankT D L s (i+1)=(blankT D L s i).set a (strOfNums (List.replicate s 0)):=by
   show (blankT D L s i).set (rd L (i : Int)).toNat (Zt s)=_
   rw [ha,Int.toNat_natCast]
   rfl
  rw [e] at ih
  exact ih
theorem spec_MendStripe.ev {D P : List ByteArray} (hD : textsLe 1048576 D) (hP : textsLe 1048576 P) (L : List Int) (hl : L.length≤1048576) (hw : ∀ x ∈ L,(Lit.int .i64 x).wf=true) : Ev (fun k=>spec_MendStripe.f k D P L) (mendVal D P L):=by
 unfold spec_MendStripe.f mendVal
 have hno : ∀ c : Prop,[Decidable c]→¬ c→Ev (fun k=>spec_MendStripe.j0 k L true D P) (if c then (if L.length=0 then (D,P,true) else mendIn D P L) else ([],[],false)):=fun c _ hc=>by
  refine Ev.step (fun k=>spec_MendStripe.j0.eq_2 _ _ _ _ k) ?_
  exact ev_pos rfl (ev_now (if_neg hc).symm)
 refine ev_bind (spec_GoodStripe.ev hD hP) ?_
 by_cases c1 : goodStripe D P=true
 ·obtain ⟨a1,a2,a3,a4⟩:=goodStripe_iff c1
  refine ev_pos c1 (ev_bind (spec_l1Some.ev L D.length a1.2 hl hw) ?_)
  by_cases c2 : rising L D.length=true
  ·refine ev_pos c2 ?_
   by_cases c3 : L.length≤P.length
   ·rw [if_pos ⟨c1,c2,c3⟩,decide_eq_false (by omega)]
    refine Ev.step (fun k=>spec_MendStripe.j0.eq_2 _ _ _ _ k) ?_
    refine ev_neg (by simp) ?_
    rw [spec_l6Own.ev (by omega) (by omega)]
    simp only [Option.bind_some]
    by_cases c4 : L.length=0
    ·rw [if_pos c4]
     exact ev_pos (by omega) (ev_now rfl)
    ·rw [if_neg c4]
     refine ev_neg (by omega) ?_
     have h0:=a3 0 (by omega)
     have hin:=rising_in c2
     refine spec_MendStripe.ev_l0 L D P (txt D 0).size h0.2 (fun j hj=>(a3 j hj).1) hl hin ?_ L.length 0 (by omega)
     rw [blankT_length]
     refine ev_bind (spec_l6Matrix.ev P.length D.length (by omega) (by omega)) ?_
     have hbl : (mendB D L).length=D.length:=blankT_length _ _ _ _
     have hb0:=mendB_0 (L:=L) c1
     refine ev_bind (spec_l3Rows.ev (D:=mendB D L) (by omega) (mendB_size c1) (by omega) (by omega) (by rw [hbl];exact parAt_bytes _ _) (by rw [tab_length];omega)) ?_
     refine ev_pos (by omega) (ev_pos (by rw [mixT_length,tab_length];omega) ?_)
     simp only [Option.bind_some,Int.toNat_natCast]
     rw [show (mixT (tab P.length D.length parAt) (mendB D L)).take L.length=mendY D L by rw [mixT_take,tab_take c3];rfl]
     refine spec_MendStripe.ev_l1 L (mendB D L) P (mendY D L) _ (mendY_length D L) c3 hl (fun j hj=>by have:=a4 j (by omega);have:=mendY_size (L:=L) c1 j hj;omega) ?_ L.length 0 (by omega)
     refine ev_bind (spec_l3All.ev L.length hl) ?_
     refine ev_bind (spec_l2Part.ev (tab P.length D.length parAt) (allI L.length) L (goodM_of (parAt_bytes _ _) (by rw [tab_length];omega) (by rw [tab_length];omega) (by omega) (by omega)) hl (by rw [allI_length];exact hl) (by rw [tab_getD_length (by omega)];exact hin) (fun j hj=>by rw [allI_length] at hj;rw [allI_rd hj,tab_length];omega)) ?_
     show Ev (fun k=>(spec_l2Inverse.f (mendC D P L)).bind _) _
     rw [spec_l2Inverse.ev (mendC_sq (by omega) (by omega))]
     simp only [Option.bind_some]
     unfold mendIn
     by_cases z : (redP (mendC D P L) (idM (mendC D P L).length) (mendC D P L).length).2=(mendC D P L).length
     ·have hok:=invM_ok (mendC_sq (D:=D) (P:=P) (L:=L) (by omega) (by omega))
      rw [mendC_length] at hok
      rw [invM_yes z] at hok ⊢
      rw [if_pos rfl]
      dsimp only at hok ⊢
      have hml:=mendL_length D P L
      have hms:=mendL_size (L:=L) c1 c3
      refine ev_pos (decide_eq_true z) (ev_bind (spec_l3Rows.ev (D:=mendL D P L) (by omega) (fun j hj=>by rw [hms j (by omega),hms 0 (by omega)]) (by rw [hms 0 (by omega)];omega) (by omega) (fun r hr=>by rw [hml];exact hok.2.1 r hr) (by omega)) ?_)
      exact spec_MendStripe.ev_l2 L (mendB D L) P _ (by rw [mixT_length];exact hok.1 rfl) (by rw [hbl];exact hin) hl L.length 0 (by omega)
     ·rw [invM_no z,if_neg (by simp)]
      exact ev_neg (by simpa using z) (ev_now rfl)
   ·rw [decide_eq_true (by omega)]
    exact hno _ (fun z=>c3 z.2.2)
  ·exact ev_neg c2 (hno _ (fun z=>c2 z.2.1))
 ·exact ev_neg c1 (hno _ (fun z=>c1 z.1))

theorem laws_toStringS.ev_l0 (l : List ByteArray) (hl : l.length < 4611686018427387904) : ∀ (n i : Nat) (o : List ByteArray),i+n=l.length→o.length=l.length→o.take i=l.take i →
  Ev (fun k=>laws_toStringS.l0 k l o (i : Int)) l
 | 0,i,o,hi,ho,ht=>by
  refine Ev.step (fun k=>laws_toStringS.l0.eq_2 _ _ _ k) ?_
  refine ev_neg (by omega) (ev_now ?_)
  rw [List.take_of_length_le (by omega),List.take_of_length_le (by omega)] at ht
  exact ht
 | n+1,i,o,hi,ho,ht=>by
  refine Ev.step (fun k=>laws_toStringS.l0.eq_2 _ _ _ k) ?_
  refine ev_pos (by omega) (ev_pos (by omega) (ev_pos (by omega) ?_))
  rw [inc (by omega),Int.toNat_natCast,rdOf_nat]
  refine laws_toStringS.ev_l0 l hl n (i+1) _ (by omega) (by simpa using ho) ?_
  rw [take_set_T _ _ _ (by omega),ht,List.take_succ_eq_append_getElem (by omega),txt_get (by omega)]
theorem laws_toStringS.ev (l : List ByteArray) (hl : l.length≤17592186044416) : Ev (fun k=>laws_toStringS.f k l) l:=by
 unfold laws_toStringS.f
 refine ev_pos (by omega) (ev_pos (by omega) ?_)
 exact laws_toStringS.ev_l0 l (by omega) l.length 0 _ (by omega) (by simp) rfl

theorem laws_toStripe.ev (l m : List ByteArray) (hl : l.length≤17592186044416) (hm : m.length≤17592186044416) : Ev (fun k=>laws_toStripe.f k l m) (l,m):=by
 unfold laws_toStripe.f
 exact ev_bind (laws_toStringS.ev l hl) (ev_bind (laws_toStringS.ev m hm) (ev_now rfl))

theorem laws_toIntS.ev_l0 (l : List Int) (hl : l.length < 4611686018427387904) : ∀ (n i : Nat) (o : List Int),i+n=l.length→o.length=l.length→o.take i=l.take i →
  Ev (fun k=>laws_toIntS.l0 k l o (i : Int)) l
 | 0,i,o,hi,ho,ht=>by
  refine Ev.step (fun k=>laws_toIntS.l0.eq_2 _ _ _ k) ?_
  refine ev_neg (by omega) (ev_now ?_)
  rw [List.take_of_length_le (by omega),List.take_of_length_le (by omega)] at ht
  exact ht
 | n+1,i,o,hi,ho,ht=>by
  refine Ev.step (fun k=>laws_toIntS.l0.eq_2 _ _ _ k) ?_
  refine ev_pos (by omega) (ev_pos (by omega) (ev_pos (by omega) ?_))
  rw [inc (by omega),Int.toNat_natCast]
  refine laws_toIntS.ev_l0 l hl n (i+1) _ (by omega) (by simpa using ho) ?_
  rw [take_set_succ _ _ _ (by omega),ht,List.take_succ_eq_append_getElem (by omega),rd_get (by omega)]
theorem laws_toIntS.ev (l : List Int) (hl : l.length≤35184372088832) : Ev (fun k=>laws_toIntS.f k l) l:=by
 unfold laws_toIntS.f
 refine ev_pos (by omega) (ev_pos (by omega) ?_)
 exact laws_toIntS.ev_l0 l (by omega) l.length 0 _ (by omega) (by simp) rfl

theorem slices_Clone_string_string.ev {l : List ByteArray} (h : l.length < 8796093022208) : slices_Clone_string_string.f l=some l:=by
 unfold slices_Clone_string_string.f
 simp only [Option.bind_some]
 rw [if_pos (by simpa using h),List.nil_append]

theorem impl_within.ev (a b c : Int) : impl_within.f a b c=some (decide (b≤a∧a≤c)):=by
 unfold impl_within.f
 by_cases h : a ≥ b
 ·rw [if_pos h];simp [h]
 ·rw [if_neg h];simp;omega

theorem impl_areEqual.ev {l : List ByteArray} (h : textsLe 140737488355328 l) : impl_areEqual.f l=some (textsOk l):=by
 unfold impl_areEqual.f
 exact if_pos (show l.length≤140737488355328∧∀ s ∈ l,s.size≤140737488355328 from h)

theorem impl_GoodStripe.ev {D P : List ByteArray} (hD : textsLe 1048576 D) (hP : textsLe 1048576 P) : impl_GoodStripe.f D P=some (goodStripe D P):=by
 unfold impl_GoodStripe.f goodStripe
 have h1:=hD.1
 have h2:=hP.1
 have ht : textsLe 140737488355328 (D ++ P):=⟨by simp;omega,fun s hs=>by have:=(hD.append hP).2 s hs;omega⟩
 simp only [impl_within.ev,Option.bind_some,decide_eq_true_eq]
 by_cases c1 : 1≤(D.length : Int)∧(D.length : Int)≤16
 ·rw [if_pos c1]
  by_cases c2 : 1≤(P.length : Int)∧(P.length : Int)≤4
  ·rw [if_pos c2,slices_Clone_string_string.ev (by omega)]
   simp only [Option.bind_some]
   rw [if_pos (by omega),impl_areEqual.ev ht,decide_eq_true ⟨c1,c2⟩,Bool.true_and]
   rfl
  ·rw [if_neg c2,decide_eq_false (fun z=>c2 z.2),Bool.false_and]
 ·rw [if_neg c1,decide_eq_false (fun z=>c1 z.1),Bool.false_and]

theorem impl_isIncreasing.ev_l0 (l : List Int) (n : Nat) (hn : n≤16) (hl : l.length≤1048576) (hw : ∀ x ∈ l,(Lit.int .i64 x).wf=true) : ∀ (d i : Nat),i+d=l.length→(∀ j,j < i→riseAt l n j=true)→Ev (fun k=>impl_isIncreasing.l0 k l (n : Int) l (l.length : Int) (i : Int)) (rising l n)
 | 0,i,hi,ha=>by
  refine Ev.step (fun k=>impl_isIncreasing.l0.eq_2 _ _ _ _ _ k) ?_
  exact ev_neg (by omega) (ev_now (rising_yes (fun j hj=>ha j (by omega))).symm)
 | d+1,i,hi,ha=>by
  have e : wrap64 ((n : Int) - 1)=(n : Int) - 1:=by unfold wrap64;omega
  refine Ev.step (fun k=>impl_isIncreasing.l0.eq_2 _ _ _ _ _ k) ?_
  refine ev_pos (by omega) (ev_pos (by omega) (ev_pos (by omega) ?_))
  simp only [impl_within.ev,Option.bind_some,decide_eq_true_eq,e]
  by_cases h : 0≤rd l (i : Int)∧rd l (i : Int)≤(n : Int) - 1
  ·refine ev_pos h ?_
   by_cases h0 : i=0
   ·subst h0
    refine ev_neg (by omega) ?_
    rw [inc (by omega)]
    refine impl_isIncreasing.ev_l0 l n hn hl hw d 1 (by omega) (fun j hj=>?_)
    have : j=0:=by omega
    subst this
    exact riseAt_yes h (.inl rfl)
   ·have e2 : wrap64 ((i : Int) - 1)=((i - 1 : Nat) : Int):=by unfold wrap64;omega
    refine ev_pos (by omega) ?_
    rw [e2]
    refine ev_pos (by omega) (ev_pos (by omega) ?_)
    by_cases h2 : rd l (i : Int)≤rd l ((i - 1 : Nat) : Int)
    ·exact ev_pos h2 (ev_now (rising_no (i:=i) (by omega) (riseAt_no (fun z=>by rcases z.2 with z | z <;> omega))).symm)
    ·refine ev_neg h2 ?_
     rw [inc (by omega)]
     refine impl_isIncreasing.ev_l0 l n hn hl hw d (i+1) (by omega) (fun j hj=>?_)
     by_cases ej : j=i
     ·subst ej;exact riseAt_yes h (.inr (by omega))
     ·exact ha j (by omega)
  ·exact ev_neg h (ev_now (rising_no (i:=i) (by omega) (riseAt_no (fun z=>h z.1))).symm)
theorem impl_isIncreasing.ev (l : List Int) (n : Nat) (hn : n≤16) (hl : l.length≤1048576) (hw : ∀ x ∈ l,(Lit.int .i64 x).wf=true) : Ev (fun k=>impl_isIncreasing.f k l (n : Int)) (rising l n):=by
 unfold impl_isIncreasing.f
 exact impl_isIncreasing.ev_l0 l n hn hl hw l.length 0 (by omega) (fun j hj=>absurd hj (by omega))

theorem impl_filled.ev_l1 {E : Nat→Int→Int→Option Int} (n m : Nat) (f : Nat→Nat→Int) (hm : m≤1048576) (i : Nat) (hE : ∀ j,j < m→Ev (fun k=>E k (i : Int) (j : Int)) (f i j)) (out : List (List Int)) (ho : out.length < 5864062014805) {R : List (List Int)}
  (K : Ev (fun k=>impl_filled.l0 E k (m : Int) (out ++ [(List.range m).map (f i)]) (n : Int) (wrap64 ((i : Int)+1))) R) : ∀ (d j : Nat) (o : List Int),j+d=m→o=(List.range j).map (f i) →
  Ev (fun k=>impl_filled.l1 E k (m : Int) out (i : Int) o (n : Int) (i : Int) (m : Int) (j : Int)) R
 | 0,j,o,hj,hoj=>by
  refine Ev.step (fun k=>impl_filled.l1.eq_2 _ _ _ _ _ _ _ _ _ k) ?_
  refine ev_neg (by omega) (ev_pos ho ?_)
  rw [hoj,show j=m by omega]
  exact K
 | d+1,j,o,hj,hoj=>by
  have hol : o.length=j:=by rw [hoj];simp
  refine Ev.step (fun k=>impl_filled.l1.eq_2 _ _ _ _ _ _ _ _ _ k) ?_
  refine ev_pos (by omega) (ev_bind (hE j (by omega)) (ev_pos (by omega) ?_))
  rw [inc (by omega)]
  refine impl_filled.ev_l1 n m f hm i hE out ho K d (j+1) _ (by omega) ?_
  rw [hoj,List.range_succ,List.map_append]
  rfl
theorem impl_filled.ev_l0 {E : Nat→Int→Int→Option Int} (n m : Nat) (f : Nat→Nat→Int) (hn : n≤1048576) (hm : m≤1048576) (hE : ∀ i,i < n→∀ j,j < m→Ev (fun k=>E k (i : Int) (j : Int)) (f i j)) : ∀ (d i : Nat) (o : List (List Int)),i+d=n→o=tab i m f →
  Ev (fun k=>impl_filled.l0 E k (m : Int) o (n : Int) (i : Int)) (tab n m f)
 | 0,i,o,hi,ho=>by
  refine Ev.step (fun k=>impl_filled.l0.eq_2 _ _ _ _ _ k) ?_
  refine ev_neg (by omega) (ev_now ?_)
  rw [ho,show i=n by omega]
 | d+1,i,o,hi,ho=>by
  have hol : o.length=i:=by rw [ho,tab_length]
  have ih:=impl_filled.ev_l0 n m f hn hm hE d (i+1) (o ++ [(List.range m).map (f i)]) (by omega) (by
   rw [ho]
   unfold tab
   rw [List.range_succ,List.map_append]
   rfl)
  refine Ev.step (fun k=>impl_filled.l0.eq_2 _ _ _ _ _ k) ?_
  refine ev_pos (by omega) ?_
  exact impl_filled.ev_l1 n m f hm i (hE i (by omega)) o (by omega) (by rw [inc (by omega)];exact ih) m 0 [] (by omega) rfl
theorem impl_filled.ev {E : Nat→Int→Int→Option Int} (n m : Nat) (f : Nat→Nat→Int) (hn : n≤1048576) (hm : m≤1048576) (hE : ∀ i,i < n→∀ j,j < m→Ev (fun k=>E k (i : Int) (j : Int)) (f i j)) : Ev (fun k=>impl_filled.f E k (n : Int) (m : Int)) (tab n m f):=by
 unfold impl_filled.f
 exact impl_filled.ev_l0 n m f hn hm hE n 0 [] (by omega) rfl

theorem impl_parityRows.ev (n m : Nat) (hn : n≤1048576) (hm : m≤1048576) : Ev (fun k=>impl_parityRows.f k (m : Int) (n : Int)) (tab n m parAt):=by
 unfold impl_parityRows.f
 refine impl_filled.ev n m parAt hn hm (fun i hi j hj=>?_)
 unfold impl_parityRows.E
 exact ev_bind (impl_power.ev byte3 i (by omega)) (impl_power.ev (Byte.pow byte3 i) j (by omega))

theorem impl_added.ev_l0 (v w : List Int) (hv : Bytes v) (hw : Bytes w) (hl : v.length=w.length) (hs : v.length < 140737488355328) : ∀ (n i : Nat) (o : List Int),i+n=v.length→o=(addV v w).take i →
  Ev (fun k=>impl_added.l0 k w o v (v.length : Int) (i : Int)) (addV v w)
 | 0,i,o,hi,ho=>by
  refine Ev.step (fun k=>impl_added.l0.eq_2 _ _ _ _ _ k) ?_
  refine ev_neg (by omega) (ev_now ?_)
  subst ho
  rw [List.take_of_length_le (by rw [addV_length];omega)]
 | n+1,i,o,hi,ho=>by
  have hz:=addV_length v w
  have hlen : o.length=i:=by rw [ho,List.length_take,hz];omega
  refine Ev.step (fun k=>impl_added.l0.eq_2 _ _ _ _ _ k) ?_
  refine ev_pos (by omega) (ev_pos (by omega) (ev_pos (by omega) (ev_pos (by omega) (ev_pos (by omega) ?_))))
  rw [inc (by omega),xor_u8 (bytes_rd hv (by omega)) (bytes_rd hw (by omega)),rd_get (by omega),rd_get (by omega)]
  refine impl_added.ev_l0 v w hv hw hl hs n (i+1) _ (by omega) ?_
  rw [List.take_succ_eq_append_getElem (by omega),← ho]
  simp [addV]
theorem impl_added.ev {v w : List Int} (hv : Bytes v) (hw : Bytes w) (hl : v.length=w.length) (hs : v.length < 140737488355328) : Ev (fun k=>impl_added.f k v w) (addV v w):=by
 unfold impl_added.f
 exact impl_added.ev_l0 v w hv hw hl hs v.length 0 [] (by omega) rfl

theorem impl_sumOf.ev {s t : ByteArray} (hs : s.size < 140737488355328) (h : s.size=t.size) : Ev (fun k=>impl_sumOf.f k s t) (strOfNums (addV (bytesOf s) (bytesOf t))):=by
 unfold impl_sumOf.f
 exact ev_pos (by omega) (ev_bind (impl_added.ev (bytes_bytesOf s) (bytes_bytesOf t) (by rw [bytesOf_length,bytesOf_length];exact h) (by rw [bytesOf_length];exact hs)) (ev_now rfl))

theorem impl_sums.ev_l0 (a b : List ByteArray) (h : a.length=b.length) (hs : ∀ j,j < a.length→(txt a j).size=(txt b j).size∧(txt a j).size≤40) (hl : a.length≤1048576) : ∀ (d i : Nat),i+d=a.length →
  Ev (fun k=>impl_sums.l0 k b ((sumT a b).take i) a (a.length : Int) (i : Int)) (sumT a b)
 | 0,i,hi=>by
  have hz:=sumT_length a b
  refine Ev.step (fun k=>impl_sums.l0.eq_2 _ _ _ _ _ k) ?_
  refine ev_neg (by omega) (ev_now ?_)
  rw [List.take_of_length_le (by omega)]
 | d+1,i,hi=>by
  have hz:=sumT_length a b
  have hsi:=hs i (by omega)
  refine Ev.step (fun k=>impl_sums.l0.eq_2 _ _ _ _ _ k) ?_
  simp only [rdOf_nat]
  refine ev_pos (by omega) (ev_pos (by omega) (ev_pos (by omega) (ev_pos (by omega) ?_)))
  refine ev_bind (impl_sumOf.ev (by omega) (by omega)) (ev_pos (by rw [List.length_take];omega) ?_)
  have e : strOfNums (addV (bytesOf (txt a i)) (bytesOf (txt b i)))=plusT (txt a i) 1 (txt b i):=by unfold plusT;rw [scale_one (bytes_bytesOf _)]
  rw [e,← sumT_succ a b (by omega),inc (by omega)]
  exact impl_sums.ev_l0 a b h hs hl d (i+1) (by omega)
theorem impl_sums.ev {a b : List ByteArray} (h : a.length=b.length) (hs : ∀ j,j < a.length→(txt a j).size=(txt b j).size∧(txt a j).size≤40) (hl : a.length≤1048576) : Ev (fun k=>impl_sums.f k a b) (sumT a b):=by
 unfold impl_sums.f
 exact impl_sums.ev_l0 a b h hs hl a.length 0 (by omega)

theorem impl_scaled.ev_l0 (a : Int) (ha : Byte a) (v : List Int) (hv : Bytes v) (hs : v.length < 140737488355328) : ∀ (n i : Nat) (o : List Int),i+n=v.length→o=(scale a v).take i →
  Ev (fun k=>impl_scaled.l0 k a o v (v.length : Int) (i : Int)) (scale a v)
 | 0,i,o,hi,ho=>by
  refine Ev.step (fun k=>impl_scaled.l0.eq_2 _ _ _ _ _ k) ?_
  refine ev_neg (by omega) (ev_now ?_)
  subst ho
  rw [List.take_of_length_le (by rw [scale_length];omega)]
 | n+1,i,o,hi,ho=>by
  have hz:=scale_length a v
  have hlen : o.length=i:=by rw [ho,List.length_take,hz];omega
  refine Ev.step (fun k=>impl_scaled.l0.eq_2 _ _ _ _ _ k) ?_
  refine ev_pos (by omega) (ev_pos (by omega) (ev_pos (by omega) ?_))
  refine ev_bind (impl_Times.ev ha (bytes_rd hv (by omega))) ?_
  refine ev_pos (by omega) ?_
  rw [inc (by omega),rd_get (by omega)]
  refine impl_scaled.ev_l0 a ha v hv hs n (i+1) _ (by omega) ?_
  rw [List.take_succ_eq_append_getElem (by omega),← ho]
  simp [scale]
theorem impl_scaled.ev {a : Int} (ha : Byte a) {v : List Int} (hv : Bytes v) (hs : v.length < 140737488355328) : Ev (fun k=>impl_scaled.f k a v) (scale a v):=by
 unfold impl_scaled.f
 exact impl_scaled.ev_l0 a ha v hv hs v.length 0 [] (by omega) rfl

theorem impl_timesOf.ev {a : Int} (ha : Byte a) {s : ByteArray} (hs : s.size < 140737488355328) : Ev (fun k=>impl_timesOf.f k a s) (strOfNums (scale a (bytesOf s))):=by
 unfold impl_timesOf.f
 exact ev_pos (by omega) (ev_bind (impl_scaled.ev ha (bytes_bytesOf s) (by rw [bytesOf_length];exact hs)) (ev_now rfl))

theorem impl_combined.ev_l1 (D : List ByteArray) (hD : ∀ j,j < D.length→(txt D j).size=(txt D 0).size) (hs : (txt D 0).size < 140737488355328) (hl : D.length < 4611686018427387904) (r : List Int) (hr : Bytes r) (hrl : r.length=D.length) (out : List ByteArray) (ho : out.length < 8796093022208)
  (R : List (List Int)) (x13 x14 : Int) {Z : List ByteArray} (K : Ev (fun k=>impl_combined.l0 k D (out ++ [strOfNums (mixTo r D (txt D 0).size D.length)]) R x13 (wrap64 (x14+1))) Z) : ∀ (d j : Nat),j+d=D.length →
  Ev (fun k=>impl_combined.l1 k D out r (strOfNums (mixTo r D (txt D 0).size j)) R x13 x14 D (D.length : Int) (j : Int)) Z
 | 0,j,hj=>by
  have e : j=D.length:=by omega
  subst e
  refine Ev.step (fun k=>impl_combined.l1.eq_2 _ _ _ _ _ _ _ _ _ _ k) ?_
  exact ev_neg (by omega) (ev_pos ho K)
 | d+1,j,hj=>by
  refine Ev.step (fun k=>impl_combined.l1.eq_2 _ _ _ _ _ _ _ _ _ _ k) ?_
  obtain ⟨h1,h2⟩:=mixTo_ok (n:=(txt D 0).size) hr hD j (by omega)
  have h3:=hD j (by omega)
  simp only [rdOf_nat]
  refine ev_pos (by omega) (ev_pos (by omega) (ev_pos (by omega) (ev_pos (by omega) ?_)))
  refine ev_bind (impl_timesOf.ev (bytes_rd hr (by omega)) (by omega)) (ev_bind (impl_sumOf.ev (by rw [strOfNums_size];omega) (by rw [strOfNums_size,strOfNums_size,scale_length,bytesOf_length];omega)) ?_)
  rw [bytesOf_str h1,bytesOf_str (scale_bytes (bytes_rd hr (by omega)) _),inc (by omega),rd_nat]
  exact impl_combined.ev_l1 D hD hs hl r hr hrl out ho R x13 x14 K d (j+1) (by omega)
theorem impl_combined.ev_l0 (D : List ByteArray) (hp : 0 < D.length) (hD : ∀ j,j < D.length→(txt D j).size=(txt D 0).size) (hs : (txt D 0).size < 140737488355328) (hl : D.length < 4611686018427387904) (R : List (List Int)) (hR : ∀ r ∈ R,Bytes r∧r.length=D.length) (hRl : R.length < 8796093022208) : ∀ (d i : Nat),i+d=R.length →
  Ev (fun k=>impl_combined.l0 k D ((mixT R D).take i) R (R.length : Int) (i : Int)) (mixT R D)
 | 0,i,hi=>by
  have hz:=mixT_length R D
  refine Ev.step (fun k=>impl_combined.l0.eq_2 _ _ _ _ _ k) ?_
  refine ev_neg (by omega) (ev_now ?_)
  rw [List.take_of_length_le (by omega)]
 | d+1,i,hi=>by
  have hz:=mixT_length R D
  have hlt : i < R.length:=by omega
  have hm:=hR _ (List.getElem_mem hlt)
  refine Ev.step (fun k=>impl_combined.l0.eq_2 _ _ _ _ _ k) ?_
  simp only [rdOf_zero,Int.toNat_natCast]
  rw [rdSS R i hlt]
  refine ev_pos (by omega) (ev_pos (by omega) (ev_pos (by omega) (ev_pos (by omega) (ev_pos (by omega) (ev_pos (by omega) ?_)))))
  refine impl_combined.ev_l1 D hD hs hl R[i] hm.1 hm.2 _ (by rw [List.length_take];omega) R _ _ ?_ D.length 0 (by omega)
  rw [inc (by omega)]
  have e : (mixT R D).take i ++ [strOfNums (mixTo R[i] D (txt D 0).size D.length)]=(mixT R D).take (i+1):=by
   rw [List.take_succ_eq_append_getElem (by omega)]
   simp [mixT]
  rw [e]
  exact impl_combined.ev_l0 D hp hD hs hl R hR hRl d (i+1) (by omega)
theorem impl_combined.ev {D : List ByteArray} (hp : 0 < D.length) (hD : ∀ j,j < D.length→(txt D j).size=(txt D 0).size) (hs : (txt D 0).size < 140737488355328) (hl : D.length < 4611686018427387904) {R : List (List Int)} (hR : ∀ r ∈ R,Bytes r∧r.length=D.length) (hRl : R.length < 8796093022208) : Ev (fun k=>impl_combined.f k R D) (mixT R D):=by
 unfold impl_combined.f
 exact impl_combined.ev_l0 D hp hD hs hl R hR hRl R.length 0 (by omega)

theorem impl_identity.ev_l0 (n : Nat) (hn : n≤1048576) : ∀ (d i : Nat) (o : List (List Int)),i+d=n→o=(idM n).take i→Ev (fun k=>impl_identity.l0 k (n : Int) o (n : Int) (i : Int)) (idM n)
 | 0,i,o,hi,ho=>by
  refine Ev.step (fun k=>impl_identity.l0.eq_2 _ _ _ _ k) ?_
  refine ev_neg (by omega) (ev_now ?_)
  rw [ho,List.take_of_length_le (by simp [idM];omega)]
 | d+1,i,o,hi,ho=>by
  have hl : o.length=i:=by rw [ho,List.length_take];simp [idM];omega
  refine Ev.step (fun k=>impl_identity.l0.eq_2 _ _ _ _ k) ?_
  simp only [Option.bind_some,Int.toNat_natCast,List.length_replicate]
  refine ev_pos (by omega) (ev_pos (by omega) (ev_pos (by omega) (ev_pos (by omega) (ev_pos (by omega) (ev_pos (by omega) ?_)))))
  rw [inc (by omega)]
  refine impl_identity.ev_l0 n hn d (i+1) _ (by omega) ?_
  rw [List.take_succ_eq_append_getElem (by simp [idM];omega),← ho]
  simp [idM]
theorem impl_identity.ev (n : Nat) (hn : n≤1048576) : Ev (fun k=>impl_identity.f k (n : Int)) (idM n):=by
 unfold impl_identity.f
 exact impl_identity.ev_l0 n hn n 0 [] (by omega) rfl

theorem impl_Inverse.ev {a : Int} (ha : Byte a) : Ev (fun k=>impl_Inverse.f k a) (inv a):=by
 unfold impl_Inverse.f
 exact ev_bind (impl_power.ev ha 254 (by decide)) (ev_now (inv_pow a).symm)

theorem impl_inverseOf.ev {l : List (List Int)} (hs : sqN l=true) : impl_inverseOf.f l=some (invM l):=by
 unfold impl_inverseOf.f
 rw [if_pos hs]

theorem partRow_tab {n n2 m : Nat} {f : Nat→Nat→Int} (c : List Int) {i : Nat} (h : i < n) (h2 : i < n2) : partRow (tab n m f) c i=partRow (tab n2 m f) c i:=by
 unfold partRow
 rw [tab_getD h,tab_getD h2]
def pickM (M : List (List Int)) (L : List Int) (n : Nat) : List (List Int):=(List.range n).map fun i=>partRow M L i
theorem pickM_length (M : List (List Int)) (L : List Int) (n : Nat) : (pickM M L n).length=n:=by simp [pickM]
theorem pickM_succ (M : List (List Int)) (L : List Int) (n : Nat) : pickM M L (n+1)=pickM M L n ++ [partRow M L n]:=by
 unfold pickM
 rw [List.range_succ,List.map_append]
 rfl
theorem pickM_mend {D P : List ByteArray} {L : List Int} (h : L.length≤P.length) : pickM (tab L.length D.length parAt) L L.length=mendC D P L:=by
 unfold pickM mendC partM
 rw [allI_length]
 refine List.map_congr_left fun i hi=>?_
 have hi2 : i < L.length:=List.mem_range.1 hi
 rw [allI_rd hi2,Int.toNat_natCast]
 exact partRow_tab L hi2 (by omega)
theorem impl_MendStripe.ev_l3 (L : List Int) (B P T : List ByteArray) (hT : T.length=L.length) (hL : ∀ j,j < L.length→0≤rd L (j : Int)∧rd L (j : Int) < (B.length : Int)) (hl : L.length≤1048576) : ∀ (d i : Nat),i+d=L.length →
  Ev (fun k=>impl_MendStripe.l3 k L T (T.length : Int) (i : Int) (fillT B L T i) P) (fillT B L T L.length,P,true)
 | 0,i,hi=>by
  refine Ev.step (fun k=>impl_MendStripe.l3.eq_2 _ _ _ _ _ _ k) ?_
  refine ev_neg (by omega) (ev_now ?_)
  rw [show i=L.length by omega]
 | d+1,i,hi=>by
  have h2:=hL i (by omega)
  refine Ev.step (fun k=>impl_MendStripe.l3.eq_2 _ _ _ _ _ _ k) ?_
  simp only [rdOf_nat]
  refine ev_pos (by omega) (ev_pos (by omega) (ev_pos (by omega) (ev_pos (by omega) (ev_pos h2.1 (ev_pos (by rw [fillT_length];exact h2.2) ?_)))))
  rw [inc (by omega)]
  exact impl_MendStripe.ev_l3 L B P T hT hL hl d (i+1) (by omega)
theorem impl_MendStripe.ev_l2 (L : List Int) (due B P : List ByteArray) (M : List (List Int)) (i : Nat) (hl : L.length≤1048576) (hL : ∀ j,j < L.length→0≤rd L (j : Int)∧rd L (j : Int) < ((M.getD i []).length : Int)) (X : List (List Int)) (hX : X.length < 5864062014805) {R : List ByteArray × List ByteArray × Bool}
  (K : Ev (fun k=>impl_MendStripe.l1 k L due (X ++ [partRow M L i]) M (M.length : Int) (wrap64 ((i : Int)+1)) B P) R) : ∀ (d j : Nat) (o : List Int),j+d=L.length→o=(partRow M L i).take j →
  Ev (fun k=>impl_MendStripe.l2 k L due X (M.getD i []) o M (M.length : Int) (i : Int) L (L.length : Int) (j : Int) B P) R
 | 0,j,o,hj,ho=>by
  refine Ev.step (fun k=>impl_MendStripe.l2.eq_2 _ _ _ _ _ _ _ _ _ _ _ _ _ k) ?_
  refine ev_neg (by omega) (ev_pos hX ?_)
  rw [ho,List.take_of_length_le (by rw [partRow_length];omega)]
  exact K
 | d+1,j,o,hj,ho=>by
  have h2:=hL j (by omega)
  have hol : o.length=j:=by rw [ho,List.length_take,partRow_length];omega
  refine Ev.step (fun k=>impl_MendStripe.l2.eq_2 _ _ _ _ _ _ _ _ _ _ _ _ _ k) ?_
  refine ev_pos (by omega) (ev_pos (by omega) (ev_pos (by omega) (ev_pos h2.1 (ev_pos h2.2 (ev_pos (by omega) ?_)))))
  rw [inc (by omega)]
  exact impl_MendStripe.ev_l2 L due B P M i hl hL X hX K d (j+1) _ (by omega) (by rw [partRow_succ M L i j (by omega),← ho])
theorem impl_MendStripe.ev_l1 (L : List Int) (due B P : List ByteArray) (M : List (List Int)) (hM : M.length=L.length) (hl : L.length≤1048576) (hL : ∀ i,i < M.length→∀ j,j < L.length→0≤rd L (j : Int)∧rd L (j : Int) < ((M.getD i []).length : Int)) {R : List ByteArray × List ByteArray × Bool}
  (K : Ev (fun k=>(impl_inverseOf.f (pickM M L M.length)).bind fun bt350=>(if bt350.2=true then ((impl_combined.f k bt350.1 due).bind fun t354=>(impl_MendStripe.l3 k L t354 (t354.length : Int) 0 B P)) else (some (([] : List ByteArray),([] : List ByteArray),false)))) R) : ∀ (d i : Nat),i+d=M.length →
  Ev (fun k=>impl_MendStripe.l1 k L due (pickM M L i) M (M.length : Int) (i : Int) B P) R
 | 0,i,hi=>by
  refine Ev.step (fun k=>impl_MendStripe.l1.eq_2 _ _ _ _ _ _ _ _ k) ?_
  refine ev_neg (by omega) ?_
  rw [show i=M.length by omega]
  exact K
 | d+1,i,hi=>by
  have ih:=impl_MendStripe.ev_l1 L due B P M hM hl hL K d (i+1) (by omega)
  refine Ev.step (fun k=>impl_MendStripe.l1.eq_2 _ _ _ _ _ _ _ _ k) ?_
  simp only [rdSS0,Int.toNat_natCast]
  refine ev_pos (by omega) (ev_pos (by omega) (ev_pos (by omega) ?_))
  exact impl_MendStripe.ev_l2 L due B P M i hl (hL i (by omega)) (pickM M L i) (by rw [pickM_length];omega) (by rw [inc (by omega),← pickM_succ];exact ih) L.length 0 [] (by omega) rfl
theorem impl_MendStripe.ev_l0 (L : List Int) (D P : List ByteArray) (s : Nat) (hs0 : s≤40) (hs : ∀ j,j < D.length→(txt D j).size=s) (hl : L.length≤1048576) (hL : ∀ j,j < L.length→0≤rd L (j : Int)∧rd L (j : Int) < (D.length : Int)) {R : List ByteArray × List ByteArray × Bool}
  (K : Ev (fun k=>(impl_parityRows.f k (D.length : Int) (L.length : Int)).bind fun t325=>((impl_combined.f k t325 (blankT D L s L.length)).bind fun t328=>(if 0≤(L.length : Int) then (if (L.length : Int)≤(P.length : Int) then ((impl_sums.f k t328 (P.take ((L.length : Int) : Int).toNat)).bind fun t332=>(impl_MendStripe.l1 k L t332 (([] : List (List Int))) t325 (t325.length : Int) 0 (blankT D L s L.length) P)) else (none)) else (none)))) R) : ∀ (d i : Nat),i+d=L.length →
  Ev (fun k=>impl_MendStripe.l0 k L L (L.length : Int) (i : Int) D P (blankT D L s i) P) R
 | 0,i,hi=>by
  refine Ev.step (fun k=>impl_MendStripe.l0.eq_2 _ _ _ _ _ _ _ _ k) ?_
  refine ev_neg (by omega) ?_
  rw [show i=L.length by omega]
  exact K
 | d+1,i,hi=>by
  have h2:=hL i (by omega)
  obtain ⟨a,ha⟩:=Int.eq_ofNat_of_zero_le h2.1
  have hz:=hs a (by omega)
  refine Ev.step (fun k=>impl_MendStripe.l0.eq_2 _ _ _ _ _ _ _ _ k) ?_
  simp only [ha,rdOf_nat,hz,Int.toNat_natCast]
  refine ev_pos (by omega) (ev_pos (by omega) (ev_pos (by omega) (ev_pos (by omega) (ev_pos (by omega) (ev_pos (by omega) (ev_pos (by omega) (ev_pos (by rw [blankT_length];omega) ?_)))))))
  rw [inc (by omega)]
  have ih:=impl_MendStripe.ev_l0 L D P s hs0 hs hl hL K d (i+1) (by omega)
  have e : blankT D L s (i+1)=(blankT D L s i).set a (strOfNums (List.replicate s 0)):=by
   show (blankT D L s i).set (rd L (i : Int)).toNat (Zt s)=_
   rw [ha,Int.toNat_natCast]
   rfl
  rw [e] at ih
  exact ih
theorem impl_MendStripe.ev {D P : List ByteArray} (hD : textsLe 1048576 D) (hP : textsLe 1048576 P) (L : List Int) (hl : L.length≤1048576) (hw : ∀ x ∈ L,(Lit.int .i64 x).wf=true) : Ev (fun k=>impl_MendStripe.f k D P L) (mendVal D P L):=by
 unfold impl_MendStripe.f mendVal
 have hno : ∀ c : Prop,[Decidable c]→¬ c→Ev (fun k=>impl_MendStripe.j0 k L true D P) (if c then (if L.length=0 then (D,P,true) else mendIn D P L) else ([],[],false)):=fun c _ hc=>by
  refine Ev.step (fun k=>impl_MendStripe.j0.eq_2 _ _ _ _ k) ?_
  exact ev_pos rfl (ev_now (if_neg hc).symm)
 rw [impl_GoodStripe.ev hD hP]
 simp only [Option.bind_some]
 by_cases c1 : goodStripe D P=true
 ·obtain ⟨a1,a2,a3,a4⟩:=goodStripe_iff c1
  refine ev_pos c1 (ev_bind (impl_isIncreasing.ev L D.length a1.2 hl hw) ?_)
  by_cases c2 : rising L D.length=true
  ·refine ev_pos c2 ?_
   by_cases c3 : L.length≤P.length
   ·rw [if_pos ⟨c1,c2,c3⟩,decide_eq_false (by omega)]
    refine Ev.step (fun k=>impl_MendStripe.j0.eq_2 _ _ _ _ k) ?_
    refine ev_neg (by simp) ?_
    rw [slices_Clone_string_string.ev (by omega),slices_Clone_string_string.ev (by omega)]
    simp only [Option.bind_some]
    by_cases c4 : L.length=0
    ·rw [if_pos c4]
     exact ev_pos (by omega) (ev_now rfl)
    ·rw [if_neg c4]
     refine ev_neg (by omega) ?_
     have h0:=a3 0 (by omega)
     have hin:=rising_in c2
     refine impl_MendStripe.ev_l0 L D P (txt D 0).size h0.2 (fun j hj=>(a3 j hj).1) hl hin ?_ L.length 0 (by omega)
     refine ev_bind (impl_parityRows.ev L.length D.length (by omega) (by omega)) ?_
     have hbl : (mendB D L).length=D.length:=blankT_length _ _ _ _
     have hb0:=mendB_0 (L:=L) c1
     refine ev_bind (impl_combined.ev (D:=mendB D L) (by omega) (mendB_size c1) (by omega) (by omega) (by rw [hbl];exact parAt_bytes _ _) (by rw [tab_length];omega)) ?_
     refine ev_pos (by omega) (ev_pos (by omega) ?_)
     simp only [Int.toNat_natCast]
     have hys:=mendY_size (L:=L) c1
     refine ev_bind (impl_sums.ev (a:=mendY D L) (b:=P.take L.length) (by rw [mendY_length,List.length_take];omega) (fun j hj=>by rw [mendY_length] at hj;have:=a4 j (by omega);rw [txt_take hj,hys j hj];omega) (by rw [mendY_length];exact hl)) ?_
     refine impl_MendStripe.ev_l1 L (mendL D P L) (mendB D L) P (tab L.length D.length parAt) (tab_length _ _ _) hl (fun i hi j hj=>by rw [tab_length] at hi;rw [tab_getD_length hi];exact hin j hj) ?_ L.length 0 (by rw [tab_length];omega)
     rw [tab_length,pickM_mend c3,impl_inverseOf.ev (mendC_sq (by omega) (by omega))]
     simp only [Option.bind_some]
     unfold mendIn
     have hok:=invM_ok (mendC_sq (D:=D) (P:=P) (L:=L) (by omega) (by omega))
     rw [mendC_length] at hok
     by_cases z : (invM (mendC D P L)).2=true
     ·rw [if_pos z]
      have hml:=mendL_length D P L
      have hms:=mendL_size (L:=L) c1 c3
      refine ev_pos z (ev_bind (impl_combined.ev (D:=mendL D P L) (by omega) (fun j hj=>by rw [hms j (by omega),hms 0 (by omega)]) (by rw [hms 0 (by omega)];omega) (by omega) (fun r hr=>by rw [hml];exact hok.2.1 r hr) (by omega)) ?_)
      exact impl_MendStripe.ev_l3 L (mendB D L) P _ (by rw [mixT_length];exact hok.1 z) (by rw [hbl];exact hin) hl L.length 0 (by omega)
     ·rw [if_neg z]
      exact ev_neg z (ev_now rfl)
   ·rw [decide_eq_true (by omega)]
    exact hno _ (fun z=>c3 z.2.2)
  ·exact ev_neg c2 (hno _ (fun z=>c2 z.2.1))
 ·exact ev_neg c1 (hno _ (fun z=>c1 z.1))

theorem laws_eqStringS.ev_l0 (l : List ByteArray) (hl : l.length < 4611686018427387904) : ∀ (n i : Nat),i+n=l.length→Ev (fun k=>laws_eqStringS.l0 k l l (i : Int)) true
 | 0,i,hi=>by
  refine Ev.step (fun k=>laws_eqStringS.l0.eq_2 _ _ _ k) ?_
  exact ev_neg (by omega) (ev_now rfl)
 | n+1,i,hi=>by
  refine Ev.step (fun k=>laws_eqStringS.l0.eq_2 _ _ _ k) ?_
  refine ev_pos (by omega) (ev_pos (by omega) (ev_pos (by omega) (ev_pos rfl ?_)))
  rw [inc (by omega)]
  exact laws_eqStringS.ev_l0 l hl n (i+1) (by omega)
theorem laws_eqStringS.ev (l : List ByteArray) (hl : l.length≤281474976710656) : Ev (fun k=>laws_eqStringS.f k l l) true:=by
 unfold laws_eqStringS.f
 exact ev_pos rfl (laws_eqStringS.ev_l0 l (by omega) l.length 0 (by omega))

theorem laws_eqStripe.ev (l m : List ByteArray) (hl : l.length≤281474976710656) (hm : m.length≤281474976710656) : Ev (fun k=>laws_eqStripe.f k l m l m) true:=by
 unfold laws_eqStripe.f
 exact ev_bind (laws_eqStringS.ev l hl) (ev_pos rfl (ev_bind (laws_eqStringS.ev m hm) (ev_pos rfl (ev_now rfl))))

theorem laws_eqIntS.ev_l0 (l : List Int) (hl : l.length < 4611686018427387904) : ∀ (n i : Nat),i+n=l.length→Ev (fun k=>laws_eqIntS.l0 k l l (i : Int)) true
 | 0,i,hi=>by
  refine Ev.step (fun k=>laws_eqIntS.l0.eq_2 _ _ _ k) ?_
  exact ev_neg (by omega) (ev_now rfl)
 | n+1,i,hi=>by
  refine Ev.step (fun k=>laws_eqIntS.l0.eq_2 _ _ _ k) ?_
  refine ev_pos (by omega) (ev_pos (by omega) (ev_pos (by omega) (ev_pos rfl ?_)))
  rw [inc (by omega)]
  exact laws_eqIntS.ev_l0 l hl n (i+1) (by omega)
theorem laws_eqIntS.ev (l : List Int) (hl : l.length≤281474976710656) : Ev (fun k=>laws_eqIntS.f k l l) true:=by
 unfold laws_eqIntS.f
 exact ev_pos rfl (laws_eqIntS.ev_l0 l (by omega) l.length 0 (by omega))

theorem laws_markText.ev_l0 : ∀ (f x : Nat) (s : List Int),x < 10 ^ f→x < 4611686018427387904→s.length+f≤1000→Ev (fun k=>laws_markText.l0 k (x : Int) (strOfNums s)) (strOfNums (mtl f x s))
 | 0,x,s,h,h2,hs=>by
  have e : x=0:=by omega
  subst e
  refine Ev.step (fun k=>laws_markText.l0.eq_2 _ _ k) ?_
  refine ev_neg (by omega) (ev_pos (by rw [strOfNums_size];omega) (ev_now ?_))
  exact str_append [109] s
 | f+1,x,s,h,h2,hs=>by
  unfold mtl
  by_cases e : x=0
  ·rw [if_pos e]
   subst e
   refine Ev.step (fun k=>laws_markText.l0.eq_2 _ _ k) ?_
   refine ev_neg (by omega) (ev_pos (by rw [strOfNums_size];omega) (ev_now ?_))
   exact str_append [109] s
  ·rw [if_neg e]
   refine Ev.step (fun k=>laws_markText.l0.eq_2 _ _ k) ?_
   refine ev_pos (by omega) ?_
   simp only [Option.bind_some]
   have e1 : Int.tmod (x : Int) 10=((x % 10 : Nat) : Int):=by rw [Int.tmod_eq_emod_of_nonneg (by omega)];omega
   have e2 : Int.tdiv (x : Int) 10=((x / 10 : Nat) : Int):=by rw [Int.tdiv_eq_ediv_of_nonneg (by omega)];omega
   have e3 : (wrap64 (48+((x % 10 : Nat) : Int))) % 256=48+((x % 10 : Nat) : Int):=by unfold wrap64;omega
   have e4 : wrap64 ((x / 10 : Nat) : Int)=((x / 10 : Nat) : Int):=by unfold wrap64;omega
   rw [e1,e2,e3,e4]
   refine ev_pos (by rw [strOfNums_size,strOfNums_size,List.length_singleton];omega) ?_
   rw [str_append]
   exact laws_markText.ev_l0 f (x / 10) _ (by rw [Nat.pow_succ] at h;omega) (by omega) (by simp only [List.singleton_append,List.length_cons];omega)
theorem laws_markText.ev (a : Int) (h : a < 4611686018427387904) : Ev (fun k=>laws_markText.f k a) (mtx a):=by
 unfold laws_markText.f mtx
 by_cases c : a≤0
 ·rw [if_pos c];exact ev_pos c (ev_now rfl)
 ·rw [if_neg c]
  refine ev_neg c ?_
  obtain ⟨x,rfl⟩:=Int.eq_ofNat_of_zero_le (show 0≤a by omega)
  rw [Int.toNat_natCast]
  exact laws_markText.ev_l0 20 x [] (by omega) (by omega) (by simp)

theorem laws_markStringS.ev_l0 (a : Int) (m : Nat) (ha : 0≤a) (hm : a+m < 4611686018427387904) : ∀ (n i : Nat) (o : List ByteArray),i+n=m→o.length=m→o.take i=(markTS a m).take i →
  Ev (fun k=>laws_markStringS.l0 k o (a+(i : Nat)) (i : Int)) (a+(m : Nat),markTS a m)
 | 0,i,o,hi,ho,ht=>by
  refine Ev.step (fun k=>laws_markStringS.l0.eq_2 _ _ _ k) ?_
  refine ev_neg (by omega) (ev_now ?_)
  have hb:=markTS_length a m
  rw [List.take_of_length_le (by omega),List.take_of_length_le (by omega)] at ht
  subst ht
  have : i=m:=by omega
  rw [this]
 | n+1,i,o,hi,ho,ht=>by
  refine Ev.step (fun k=>laws_markStringS.l0.eq_2 _ _ _ k) ?_
  refine ev_pos (by omega) (ev_bind (laws_markText.ev _ (by omega)) (ev_pos (by omega) ?_))
  have e : wrap64 (a+(i : Nat)+1)=a+((i+1 : Nat) : Int):=by unfold wrap64;omega
  rw [e,inc (by omega),Int.toNat_natCast]
  refine laws_markStringS.ev_l0 a m ha hm n (i+1) _ (by omega) (by simpa using ho) ?_
  have hb:=markTS_length a m
  rw [take_set_T _ _ _ (by omega),ht,List.take_succ_eq_append_getElem (by omega)]
  simp [markTS]
theorem laws_markStringS.ev (l : List ByteArray) (a : Int) (ha : 0≤a) (hm : a+l.length < 4611686018427387904) : Ev (fun k=>laws_markStringS.f k l a) (a+(l.length : Nat),markTS a l.length):=by
 unfold laws_markStringS.f
 have:=laws_markStringS.ev_l0 a l.length ha hm l.length 0 l (by omega) rfl rfl
 simpa using this

theorem laws_markStripe.ev (l m : List ByteArray) (a : Int) (ha : 0≤a) (hm : a+l.length+m.length < 4611686018427387904) : Ev (fun k=>laws_markStripe.f k l m a) (a+(l.length : Nat)+(m.length : Nat),markTS a l.length,markTS (a+(l.length : Nat)) m.length):=by
 unfold laws_markStripe.f
 exact ev_bind (laws_markStringS.ev l a ha (by omega)) (ev_bind (laws_markStringS.ev m _ (by omega) (by omega)) (ev_now rfl))

theorem laws_markIntS.ev_l0 (a : Int) (m : Nat) (ha : 0≤a) (hm : a+m < 4611686018427387904) : ∀ (n i : Nat) (o : List Int),i+n=m→o.length=m→o.take i=(markI a m).take i →
  Ev (fun k=>laws_markIntS.l0 k o (a+(i : Nat)) (i : Int)) (a+(m : Nat),markI a m)
 | 0,i,o,hi,ho,ht=>by
  refine Ev.step (fun k=>laws_markIntS.l0.eq_2 _ _ _ k) ?_
  refine ev_neg (by omega) (ev_now ?_)
  have hb:=markI_length a m
  rw [List.take_of_length_le (by omega),List.take_of_length_le (by omega)] at ht
  subst ht
  have : i=m:=by omega
  rw [this]
 | n+1,i,o,hi,ho,ht=>by
  refine Ev.step (fun k=>laws_markIntS.l0.eq_2 _ _ _ k) ?_
  refine ev_pos (by omega) (ev_pos (by omega) ?_)
  have e : wrap64 (a+(i : Nat)+1)=a+((i+1 : Nat) : Int):=by unfold wrap64;omega
  rw [inc (by omega),e,Int.toNat_natCast]
  refine laws_markIntS.ev_l0 a m ha hm n (i+1) _ (by omega) (by simpa using ho) ?_
  have hb:=markI_length a m
  rw [take_set_succ _ _ _ (by omega),ht,List.take_succ_eq_append_getElem (by omega),markI_get]
theorem laws_markIntS.ev (l : List Int) (a : Int) (ha : 0≤a) (hm : a+l.length < 4611686018427387904) : Ev (fun k=>laws_markIntS.f k l a) (a+(l.length : Nat),markI a l.length):=by
 unfold laws_markIntS.f
 have:=laws_markIntS.ev_l0 a l.length ha hm l.length 0 l (by omega) rfl rfl
 simpa using this

theorem laws_heldStringS.ev_l0 (a : Int) (m : Nat) (ha : 0≤a) (hm : a+m < 4611686018427387904) : ∀ (n i : Nat),i+n=m →
  Ev (fun k=>laws_heldStringS.l0 k (markTS a m) (a+(i : Nat)) (i : Int)) (a+(m : Nat))
 | 0,i,hi=>by
  have hb:=markTS_length a m
  refine Ev.step (fun k=>laws_heldStringS.l0.eq_2 _ _ _ k) ?_
  refine ev_neg (by omega) (ev_now ?_)
  have : i=m:=by omega
  rw [this]
 | n+1,i,hi=>by
  have hb:=markTS_length a m
  refine Ev.step (fun k=>laws_heldStringS.l0.eq_2 _ _ _ k) ?_
  have e : wrap64 (a+(i : Nat)+1)=a+((i+1 : Nat) : Int):=by unfold wrap64;omega
  rw [rdOf_nat,markTS_get _ _ _ (by omega),e,inc (by omega)]
  refine ev_pos (by omega) (ev_pos (by omega) (ev_bind (laws_markText.ev _ (by omega)) (ev_pos rfl ?_)))
  exact laws_heldStringS.ev_l0 a m ha hm n (i+1) (by omega)
theorem laws_heldStringS.ev (a : Int) (m : Nat) (ha : 0≤a) (hm : a+m < 4611686018427387904) : Ev (fun k=>laws_heldStringS.f k (markTS a m) a) (a+(m : Nat)):=by
 unfold laws_heldStringS.f
 have:=laws_heldStringS.ev_l0 a m ha hm m 0 (by omega)
 simpa using this

theorem laws_heldStripe.ev (a : Int) (n m : Nat) (ha : 0≤a) (hm : a+n+m < 4611686018427387904) : Ev (fun k=>laws_heldStripe.f k (markTS a n) (markTS (a+(n : Nat)) m) a) (a+(n : Nat)+(m : Nat)):=by
 unfold laws_heldStripe.f
 exact ev_bind (laws_heldStringS.ev a n ha (by omega)) (ev_neg (by omega) (ev_bind (laws_heldStringS.ev _ m (by omega) (by omega)) (ev_neg (by omega) (ev_now rfl))))

theorem FnExactMendStripe : ∀ (D P : List ByteArray) (L : List Int),((D.length≤maxLen∧∀ x ∈ D,ByteArray.size x≤maxLen)∧(P.length≤maxLen∧∀ x ∈ P,ByteArray.size x≤maxLen))→(L.length≤maxLen∧∀ x ∈ L,(Lit.int .i64 x).wf=true)→laws_FnExactMendStripe.Facts D P L:=by
 intro D P L hw hv
 by_cases c1 : 1048576 < (L.length : Int)
 ·exact .inl c1
 have hsz:=laws_szStripe.ev D P hw.1 hw.2 1048576 (by decide) (by decide)
 by_cases h : (D.length : Int)+(totT D : Int)+((P.length : Int)+(totT P : Int))≤1048576
 ·rw [if_pos h] at hsz
  have hD:=textsLe_of (show (D.length : Int)+(totT D : Int)≤1048576 by omega)
  have hP:=textsLe_of (show (P.length : Int)+(totT P : Int)≤1048576 by omega)
  have hz:=mendVal_len D P L
  have h01:=hD.1
  have h02:=hP.1
  refine .inr (.inr ⟨_,D,P,L,(mendVal D P L).1,(mendVal D P L).2.1,(mendVal D P L).2.2,c1,Ev.rounds hsz,by omega,Ev.rounds (laws_toStripe.ev D P (by omega) (by omega)),Ev.rounds (laws_toIntS.ev L (by omega)),?_⟩)
  have hs:=spec_MendStripe.ev hD hP L (by omega) hv.2
  have hi:=impl_MendStripe.ev hD hP L (by omega) hv.2
  generalize mendVal D P L=v at *
  obtain ⟨R,S,c⟩:=v
  dsimp only at *
  exact ⟨Ev.rounds hs,Ev.rounds hi,Ev.rounds (laws_eqStripe.ev R S (by omega) (by omega)),Ev.rounds (laws_eqStripe.ev D P (by omega) (by omega)),Ev.rounds (laws_eqIntS.ev L (by omega)),Ev.rounds (laws_heldStripe.ev 1 R.length S.length (by decide) (by omega)),
   fun l m a h1 h2=>Ev.rounds (laws_markStripe.ev l m a h1 h2),fun l a h1 h2=>Ev.rounds (laws_markIntS.ev l a h1 h2),by omega,by omega,by omega,by omega,by omega⟩
 ·rw [if_neg h] at hsz
  exact .inr (.inl ⟨_,c1,Ev.rounds hsz,by decide⟩)

end Go.Proofs.Ytajikfnpcobnpaa.Pure
-- HALVED
-- SQUEEZED
