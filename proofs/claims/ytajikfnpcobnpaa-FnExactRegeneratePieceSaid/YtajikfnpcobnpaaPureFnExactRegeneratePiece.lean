/- The given program's RegeneratePiece returns what the reference's RegeneratePiece returns, for all codes, numbers and helps, leaves the helps as they were, and what it returns is its own; there is no condition. -/
import Derived.Test.YtajikfnpcobnpaaPFnExactRegeneratePiecex
import Derived.Test.YtajikfnpcobnpaaVRegeneratePieceKit
import Derived.Test.YtajikfnpcobnpaaVRegeneratePieceTxt
namespace Go.Proofs.Ytajikfnpcobnpaa.Pure
open Go.RowKit Go.Proofs.Ytajikfnpcobnpaa.PFnExactRegeneratePiece Go.Proofs.YtajikfnpcobnpaaW.PrintWords Go.Proofs.YtajikfnpcobnpaaW.PrintLast Go.Proofs.Ytajikfnpcobnpaa.Gf Go.Proofs.Ytajikfnpcobnpaa.Kit Go.Proofs.Ytajikfnpcobnpaa.KitW
open Go.Proofs.Ytajikfnpcobnpaa.KitN hiding idM_length
set_option linter.unusedVariables false
set_option linter.unusedSimpArgs false

theorem rdSS (l : List (List Int)) (i : Nat) (h : i < l.length) : rd_L3 l (i : Int)=l[i]:=by unfold rd_L3;simp [List.getD,h]
theorem rdSS0 (l : List (List Int)) (i : Int) : rd_L3 l i=l.getD i.toNat []:=rfl
theorem impl_Times.ev_l0 (b : Nat) (hb : b < 256) : ∀ (n i o x : Nat),i+n=8→o < 256→x < 256 →
  Ev (fun k=>impl_Times.l0 k (b : Int) (o : Int) (i : Int) (x : Int)) ((T n o x (b / 2 ^ i) : Nat) : Int)
 | 0,i,o,x,hi,ho,hx=>by
  refine Ev.step (fun k=>impl_Times.l0.eq_2 _ _ _ _ k) ?_
  refine ev_neg (by omega) (ev_now ?_)
  simp only [T]
  omega
 | n+1,i,o,x,hi,ho,hx=>by
  refine Ev.step (fun k=>impl_Times.l0.eq_2 _ _ _ _ k) ?_
  refine ev_pos (by omega) (ev_pos (by omega) ?_)
  have e1 : shr .u8 (b : Int) (i : Int)=((b / 2 ^ i : Nat) : Int):=by
   unfold shr
   rw [Nat.min_eq_left (by simp only [IntKind.bits];omega)]
   simp
  have hd : b / 2 ^ i < 256:=Nat.lt_of_le_of_lt (Nat.div_le_self _ _) hb
  have e2 : wrap64 ((x : Int)*2)=((2*x : Nat) : Int):=by rw [wrap_id (by omega) (by omega)];omega
  have e3 : wrap64 ((i : Int)+1)=((i+1 : Nat) : Int):=by rw [wrap_id (by omega) (by omega)];omega
  rw [e1,and1_u8 hd,e2,e3]
  have e4 : Go.bits .xor .i64 (o : Int) (x : Int)=((o ^^^ x : Nat) : Int):=xor_i64 (by omega) (by omega)
  have e5 : Go.bits .xor .i64 ((2*x : Nat) : Int) 283=((2*x ^^^ 283 : Nat) : Int):=xor_i64 (m:=2*x) (n:=283) (by omega) (by omega)
  have e6 : b / 2 ^ i / 2=b / 2 ^ (i+1):=by rw [Nat.div_div_eq_div_mul,Nat.pow_succ]
  rw [e4,e5]
  have hT : T (n+1) o x (b / 2 ^ i)=T n (if b / 2 ^ i % 2=1 then o ^^^ x else o) (xt x) (b / 2 ^ (i+1)):=by rw [T,e6]
  rw [hT]
  have hxt:=xt_lt hx
  have hox:=xor_lt ho hx
  by_cases h1 : b / 2 ^ i % 2=1
  ·rw [if_pos h1]
   refine ev_pos (by omega) ?_
   by_cases h2 : 2*x > 255
   ·refine ev_pos (by omega) ?_
    have : xt x=2*x ^^^ 283:=by unfold xt;rw [if_pos h2]
    rw [this] at hxt ⊢
    exact impl_Times.ev_l0 b hb n (i+1) _ _ (by omega) hox hxt
   ·refine ev_neg (by omega) ?_
    have : xt x=2*x:=by unfold xt;rw [if_neg h2]
    rw [this] at hxt ⊢
    exact impl_Times.ev_l0 b hb n (i+1) _ _ (by omega) hox hxt
  ·rw [if_neg h1]
   refine ev_neg (by omega) ?_
   by_cases h2 : 2*x > 255
   ·refine ev_pos (by omega) ?_
    have : xt x=2*x ^^^ 283:=by unfold xt;rw [if_pos h2]
    rw [this] at hxt ⊢
    exact impl_Times.ev_l0 b hb n (i+1) _ _ (by omega) ho hxt
   ·refine ev_neg (by omega) ?_
    have : xt x=2*x:=by unfold xt;rw [if_neg h2]
    rw [this] at hxt ⊢
    exact impl_Times.ev_l0 b hb n (i+1) _ _ (by omega) ho hxt
theorem impl_Times.ev {a b : Int} (ha : Byte a) (hb : Byte b) : Ev (fun k=>impl_Times.f k a b) (mul a b):=by
 obtain ⟨m,hm,rfl⟩:=ha.nat
 obtain ⟨n,hn,rfl⟩:=hb.nat
 unfold impl_Times.f
 rw [wrap_id (by omega) (by omega)]
 have h:=impl_Times.ev_l0 n hn 8 0 0 m rfl (by decide) hm
 exact ev_eq h (by unfold Gf.mul gm;simp)

theorem impl_power.ev_l0 : ∀ (N n : Nat) (a o : Int),n≤N→n < 4294967296→Byte a→Byte o→Ev (fun k=>impl_power.l0 k a (n : Int) o) (mul o (pow a n)):=by
 intro N
 induction N with
 | zero =>
  intro n a o hN hn ha ho
  obtain rfl : n=0:=by omega
  refine Ev.step (fun k=>impl_power.l0.eq_2 _ _ _ k) ?_
  exact ev_neg (by omega) (ev_now (by rw [pow_zero,mul_one ho]))
 | succ N ih =>
  intro n a o hN hn ha ho
  refine Ev.step (fun k=>impl_power.l0.eq_2 _ _ _ k) ?_
  by_cases h0 : n=0
  ·subst h0
   exact ev_neg (by omega) (ev_now (by rw [pow_zero,mul_one ho]))
  refine ev_pos (by omega) ?_
  have e : ((n : Int) / 2)=((n / 2 : Nat) : Int):=by omega
  have haa:=Byte.mul ha a
  have hsq : pow (mul a a) (n / 2)=pow a (2*(n / 2)):=by rw [pow_mul ha,pow_two ha]
  rw [and1_i64 hn,e]
  by_cases h1 : n % 2=1
  ·refine ev_pos (by omega) ?_
   refine ev_bind (impl_Times.ev ho ha) (ev_bind (impl_Times.ev ha ha) ?_)
   refine ev_eq (ih (n / 2) _ _ (by omega) (by omega) haa (Byte.mul ho a)) ?_
   have hn2 : n=1+2*(n / 2):=by omega
   rw [hsq,mul_assoc ho ha (Byte.pow ha _)]
   conv=>rhs;rw [hn2,pow_add ha,pow_one ha]
  ·refine ev_neg (by omega) ?_
   refine ev_bind (impl_Times.ev ha ha) ?_
   refine ev_eq (ih (n / 2) _ _ (by omega) (by omega) haa ho) ?_
   have hn2 : n=2*(n / 2):=by omega
   rw [hsq,← hn2]
theorem impl_power.ev {a : Int} (ha : Byte a) (n : Nat) (hn : n < 4294967296) : Ev (fun k=>impl_power.f k a (n : Int)) (pow a n):=by
 unfold impl_power.f
 refine ev_eq (impl_power.ev_l0 n n a 1 (Nat.le_refl _) hn ha .one) ?_
 exact one_mul (Byte.pow ha n)

theorem laws_szHelpS.ev (l : List (S153)) (hl : l.length≤maxLen) : laws_szHelpS.f l 1048576=some (if l.length≤1048576 then 1048576 - (l.length : Int) else -1):=by
 unfold laws_szHelpS.f
 unfold maxLen at hl
 have e : wrap64 (1048576 - (l.length : Int))=1048576 - (l.length : Int):=by unfold wrap64;omega
 rw [e]
 by_cases h : l.length≤1048576
 ·rw [if_neg (by omega),if_pos h]
 ·rw [if_pos (by omega),if_neg h]

theorem spec_l1Add.ev_l0 (v w : List Int) (hv : Bytes v) (hw : Bytes w) (hl : v.length=w.length) (hs : v.length < 140737488355328) : ∀ (n i : Nat) (o : List Int),i+n=v.length→o=(addV v w).take i →
  Ev (fun k=>spec_l1Add.l0 k v w o (v.length : Int) (i : Int)) (addV v w)
 | 0,i,o,hi,ho=>by
  refine Ev.step (fun k=>spec_l1Add.l0.eq_2 _ _ _ _ _ k) ?_
  refine ev_neg (by omega) (ev_now ?_)
  subst ho
  rw [List.take_of_length_le (by rw [addV_length];omega)]
 | n+1,i,o,hi,ho=>by
  have hz:=addV_length v w
  have hlen : o.length=i:=by rw [ho,List.length_take,hz];omega
  refine Ev.step (fun k=>spec_l1Add.l0.eq_2 _ _ _ _ _ k) ?_
  refine ev_pos (by omega) (ev_pos (by omega) (ev_pos (by omega) (ev_pos (by omega) (ev_pos (by omega) ?_))))
  rw [inc (by omega),xor_u8 (bytes_rd hv (by omega)) (bytes_rd hw (by omega)),rd_get (by omega),rd_get (by omega)]
  refine spec_l1Add.ev_l0 v w hv hw hl hs n (i+1) _ (by omega) ?_
  rw [List.take_succ_eq_append_getElem (by omega),← ho]
  simp [addV]
theorem spec_l1Add.ev {v w : List Int} (hv : Bytes v) (hw : Bytes w) (hl : v.length=w.length) (hs : v.length < 140737488355328) : Ev (fun k=>spec_l1Add.f k v w) (addV v w):=by
 unfold spec_l1Add.f
 exact spec_l1Add.ev_l0 v w hv hw hl hs v.length 0 [] (by omega) rfl

theorem spec_l1Times.ev_l0 : ∀ (n o x y : Nat),y < 2 ^ n→n≤8→o < 256→x < 256 →
  Ev (fun k=>spec_l1Times.l0 k (o : Int) (x : Int) (y : Int)) ((T n o x y : Nat) : Int)
 | 0,o,x,y,hy,_,ho,hx=>by
  refine Ev.step (fun k=>spec_l1Times.l0.eq_2 _ _ _ k) ?_
  have : y=0:=by simpa using hy
  subst this
  refine ev_neg (by decide) (ev_now ?_)
  simp only [T]
  omega
 | n+1,o,x,y,hy,hn,ho,hx=>by
  have hy8 : y < 256:=Nat.lt_of_lt_of_le hy (Nat.pow_le_pow_right (n:=2) (by decide) hn)
  by_cases h0 : y=0
  ·subst h0
   refine Ev.step (fun k=>spec_l1Times.l0.eq_2 _ _ _ k) ?_
   refine ev_neg (by decide) (ev_now ?_)
   rw [T_zero]
   omega
  refine Ev.step (fun k=>spec_l1Times.l0.eq_2 _ _ _ k) ?_
  refine ev_pos (by omega) ?_
  have e2 : wrap64 ((x : Int)*2)=((2*x : Nat) : Int):=by rw [wrap_id (by omega) (by omega)];omega
  have e3 : ((y : Int) / 2)=((y / 2 : Nat) : Int):=by omega
  have e4 : Go.bits .xor .i64 (o : Int) (x : Int)=((o ^^^ x : Nat) : Int):=xor_i64 (by omega) (by omega)
  have e5 : Go.bits .xor .i64 ((2*x : Nat) : Int) 283=((2*x ^^^ 283 : Nat) : Int):=xor_i64 (m:=2*x) (n:=283) (by omega) (by omega)
  rw [and1_i64 (by omega),e2,e3,e4,e5]
  have hT : T (n+1) o x y=T n (if y % 2=1 then o ^^^ x else o) (xt x) (y / 2):=by rw [T]
  rw [hT]
  have hxt:=xt_lt hx
  have hox:=xor_lt ho hx
  have hh : y / 2 < 2 ^ n:=by rw [Nat.pow_succ] at hy;omega
  by_cases h1 : y % 2=1
  ·rw [if_pos h1]
   refine ev_pos (by omega) ?_
   by_cases h2 : 2*x > 255
   ·refine ev_pos (by omega) ?_
    have : xt x=2*x ^^^ 283:=by unfold xt;rw [if_pos h2]
    rw [this] at hxt ⊢
    exact spec_l1Times.ev_l0 n _ _ _ hh (by omega) hox hxt
   ·refine ev_neg (by omega) ?_
    have : xt x=2*x:=by unfold xt;rw [if_neg h2]
    rw [this] at hxt ⊢
    exact spec_l1Times.ev_l0 n _ _ _ hh (by omega) hox hxt
  ·rw [if_neg h1]
   refine ev_neg (by omega) ?_
   by_cases h2 : 2*x > 255
   ·refine ev_pos (by omega) ?_
    have : xt x=2*x ^^^ 283:=by unfold xt;rw [if_pos h2]
    rw [this] at hxt ⊢
    exact spec_l1Times.ev_l0 n _ _ _ hh (by omega) ho hxt
   ·refine ev_neg (by omega) ?_
    have : xt x=2*x:=by unfold xt;rw [if_neg h2]
    rw [this] at hxt ⊢
    exact spec_l1Times.ev_l0 n _ _ _ hh (by omega) ho hxt
theorem spec_l1Times.ev {a b : Int} (ha : Byte a) (hb : Byte b) : Ev (fun k=>spec_l1Times.f k a b) (mul a b):=by
 obtain ⟨m,hm,rfl⟩:=ha.nat
 obtain ⟨n,hn,rfl⟩:=hb.nat
 unfold spec_l1Times.f
 rw [wrap_id (i:=(m : Int)) (by omega) (by omega),wrap_id (i:=(n : Int)) (by omega) (by omega)]
 have h:=spec_l1Times.ev_l0 8 0 m n hn (Nat.le_refl _) (by decide) hm
 exact ev_eq h (by unfold Gf.mul gm;simp)

theorem spec_l1Scale.ev_l0 (a : Int) (ha : Byte a) (v : List Int) (hv : Bytes v) (hs : v.length < 140737488355328) : ∀ (n i : Nat) (o : List Int),i+n=v.length→o=(scale a v).take i →
  Ev (fun k=>spec_l1Scale.l0 k a o v (v.length : Int) (i : Int)) (scale a v)
 | 0,i,o,hi,ho=>by
  refine Ev.step (fun k=>spec_l1Scale.l0.eq_2 _ _ _ _ _ k) ?_
  refine ev_neg (by omega) (ev_now ?_)
  subst ho
  rw [List.take_of_length_le (by rw [scale_length];omega)]
 | n+1,i,o,hi,ho=>by
  have hz:=scale_length a v
  have hlen : o.length=i:=by rw [ho,List.length_take,hz];omega
  refine Ev.step (fun k=>spec_l1Scale.l0.eq_2 _ _ _ _ _ k) ?_
  refine ev_pos (by omega) (ev_pos (by omega) (ev_pos (by omega) ?_))
  refine ev_bind (spec_l1Times.ev ha (bytes_rd hv (by omega))) ?_
  refine ev_pos (by omega) ?_
  rw [inc (by omega),rd_get (by omega)]
  refine spec_l1Scale.ev_l0 a ha v hv hs n (i+1) _ (by omega) ?_
  rw [List.take_succ_eq_append_getElem (by omega),← ho]
  simp [scale]
theorem spec_l1Scale.ev {a : Int} (ha : Byte a) {v : List Int} (hv : Bytes v) (hs : v.length < 140737488355328) : Ev (fun k=>spec_l1Scale.f k a v) (scale a v):=by
 unfold spec_l1Scale.f
 exact spec_l1Scale.ev_l0 a ha v hv hs v.length 0 [] (by omega) rfl

theorem spec_l2Own.ev_l0 (l : List (List Int)) (hl : l.length≤1048576) (hr : ∀ r ∈ l,r.length≤1048576) : ∀ (d i : Nat) (o : List (List Int)),i+d=l.length→o=l.take i→Ev (fun k=>spec_l2Own.l0 k l (l.length : Int) (i : Int) o) l
 | 0,i,o,hi,ho=>by
  refine Ev.step (fun k=>spec_l2Own.l0.eq_2 _ _ _ _ k) ?_
  refine ev_neg (by omega) (ev_now ?_)
  rw [ho,List.take_of_length_le (by omega)]
 | d+1,i,o,hi,ho=>by
  have hol : o.length=i:=by rw [ho,List.length_take];omega
  have hrl : (l.getD i []).length≤1048576:=by
   rw [List.getD_eq_getElem?_getD,List.getElem?_eq_getElem (show i < l.length by omega)]
   exact hr _ (List.getElem_mem _)
  refine Ev.step (fun k=>spec_l2Own.l0.eq_2 _ _ _ _ k) ?_
  simp only [Option.bind_some]
  refine ev_pos (by omega) (ev_pos (by omega) (ev_pos (by omega) (ev_pos (show ([] : List Int).length+(l.getD i []).length < 140737488355328 by simp only [List.length_nil];omega) (ev_pos (by omega) ?_))))
  rw [inc (by omega)]
  refine spec_l2Own.ev_l0 l hl hr d (i+1) _ (by omega) ?_
  rw [List.take_succ_eq_append_getElem (show i < l.length by omega),← ho,show l[i]'(by omega)=l.getD i [] by rw [List.getD_eq_getElem?_getD,List.getElem?_eq_getElem (show i < l.length by omega)];rfl]
  rfl
theorem spec_l2Own.ev (l : List (List Int)) (hl : l.length≤1048576) (hr : ∀ r ∈ l,r.length≤1048576) : Ev (fun k=>spec_l2Own.f k l) l:=by
 unfold spec_l2Own.f
 exact spec_l2Own.ev_l0 l hl hr l.length 0 [] (by omega) rfl

theorem spec_l1Power.ev_l0 (a : Int) (ha : Byte a) : ∀ (n m : Nat),n < 4611686018427387904→Ev (fun k=>spec_l1Power.l0 k a (n : Int) (pow a m)) (pow a (m+n))
 | 0,m,_=>by
  refine Ev.step (fun k=>spec_l1Power.l0.eq_2 _ _ _ k) ?_
  exact ev_neg (by omega) (ev_now rfl)
 | n+1,m,hn=>by
  refine Ev.step (fun k=>spec_l1Power.l0.eq_2 _ _ _ k) ?_
  refine ev_pos (by omega) ?_
  refine ev_bind (spec_l1Times.ev (Byte.pow ha m) ha) ?_
  have e : wrap64 (((n+1 : Nat) : Int) - 1)=(n : Int):=by unfold wrap64;omega
  rw [e,← pow_succ]
  refine ev_eq (spec_l1Power.ev_l0 a ha n (m+1) (by omega)) ?_
  rw [Nat.add_right_comm,Nat.add_assoc]
theorem spec_l1Power.ev {a : Int} (ha : Byte a) (n : Nat) (hn : n < 4611686018427387904) : Ev (fun k=>spec_l1Power.f k a (n : Int)) (pow a n):=by
 unfold spec_l1Power.f
 have:=spec_l1Power.ev_l0 a ha n 0 hn
 rw [pow_zero,Nat.zero_add] at this
 exact this

theorem spec_l1Inverse.ev {a : Int} (ha : Byte a) : Ev (fun k=>spec_l1Inverse.f k a) (inv a):=by
 unfold spec_l1Inverse.f
 by_cases h : a=0
 ·subst h
  exact ev_pos rfl (ev_now inv_zero.symm)
 ·exact ev_neg h (ev_bind (spec_l1Power.ev ha 254 (by decide)) (ev_now (inv_pow a).symm))

theorem spec_l2Blank.ev_l0 (n m : Nat) (hn : n≤1048576) (hm : m≤1048576) : ∀ (d i : Nat),i+d=n→Ev (fun k=>spec_l2Blank.l0 k (n : Int) (m : Int) (i : Int) (blankM i m)) (blankM n m)
 | 0,i,hi=>by
  obtain rfl : i=n:=by omega
  refine Ev.step (fun k=>spec_l2Blank.l0.eq_2 _ _ _ _ k) ?_
  exact ev_neg (by omega) (ev_now rfl)
 | d+1,i,hi=>by
  have ih:=spec_l2Blank.ev_l0 n m hn hm d (i+1) (by omega)
  refine Ev.step (fun k=>spec_l2Blank.l0.eq_2 _ _ _ _ k) ?_
  refine ev_pos (by omega) (ev_pos (by omega) (ev_pos (by omega) (ev_pos (by simp [blankM];omega) ?_)))
  rw [inc (by omega),Int.toNat_natCast]
  have e : blankM i m ++ [List.replicate m 0]=blankM (i+1) m:=by
   unfold blankM;rw [List.replicate_succ']
  rw [e]
  exact ih
theorem spec_l2Blank.ev (n m : Nat) (hn : n≤1048576) (hm : m≤1048576) : Ev (fun k=>spec_l2Blank.f k (n : Int) (m : Int)) (blankM n m):=by
 unfold spec_l2Blank.f
 exact spec_l2Blank.ev_l0 n m hn hm n 0 (by omega)

def idPart (n i : Nat) : List (List Int):=(List.range n).map fun j=>if j < i then (List.replicate n 0).set j 1 else List.replicate n 0
theorem idPart_length (n i : Nat) : (idPart n i).length=n:=by simp [idPart]
theorem idPart_zero (n : Nat) : idPart n 0=blankM n n:=by
 apply List.ext_getElem
 ·simp [idPart,blankM]
 ·intro j h1 h2;simp [idPart,blankM]
theorem idPart_all (n : Nat) : idPart n n=idM n:=by
 apply List.ext_getElem
 ·simp [idPart,idM]
 ·intro j h1 h2
  have : j < n:=by simpa [idPart] using h1
  simp [idPart,idM,this]
theorem idPart_succ (n i : Nat) (hi : i < n) : (idPart n i).set i ((List.replicate n 0).set i 1)=idPart n (i+1):=by
 apply List.ext_getElem
 ·simp [idPart]
 ·intro j h1 h2
  rw [List.getElem_set]
  by_cases e : i=j
  ·subst e
   simp [idPart]
  ·rw [if_neg e]
   simp only [idPart,List.getElem_map,List.getElem_range]
   by_cases h : j < i
   ·rw [if_pos h,if_pos (by omega)]
   ·rw [if_neg h,if_neg (by omega)]
theorem spec_l2Identity.ev_l0 (n : Nat) (hn : n≤1048576) : ∀ (d i : Nat),i+d=n→Ev (fun k=>spec_l2Identity.l0 k (n : Int) (i : Int) (idPart n i)) (idM n)
 | 0,i,hi=>by
  obtain rfl : i=n:=by omega
  refine Ev.step (fun k=>spec_l2Identity.l0.eq_2 _ _ _ k) ?_
  exact ev_neg (by omega) (ev_now (idPart_all i))
 | d+1,i,hi=>by
  have hl:=idPart_length n i
  have hg : rd_L3 (idPart n i) (i : Int)=List.replicate n 0:=by
   rw [rdSS _ i (by omega)]
   simp [idPart]
  have ih:=spec_l2Identity.ev_l0 n hn d (i+1) (by omega)
  refine Ev.step (fun k=>spec_l2Identity.l0.eq_2 _ _ _ k) ?_
  rw [hg]
  refine ev_pos (by omega) (ev_pos (by omega) (ev_pos (by omega) (ev_pos (by simp;omega) ?_)))
  rw [inc (by omega),Int.toNat_natCast,idPart_succ n i (by omega)]
  exact ih
theorem spec_l2Identity.ev (n : Nat) (hn : n≤1048576) : Ev (fun k=>spec_l2Identity.f k (n : Int)) (idM n):=by
 unfold spec_l2Identity.f
 refine ev_bind (spec_l2Blank.ev n n hn hn) ?_
 have e : ((blankM n n).length : Int)=(n : Int):=by simp [blankM]
 rw [e,← idPart_zero]
 exact spec_l2Identity.ev_l0 n hn n 0 (by omega)

theorem sqM_good {l : List (List Int)} (h : goodM l=true) (hb : matBytes l) : sqM l=true:=by
 obtain ⟨h1,h2,h3⟩:=goodM_iff h
 refine sqM_iff.2 ⟨by omega,by omega,fun r hr=>⟨hb r hr,?_⟩⟩
 obtain ⟨i,hi,rfl⟩:=List.getElem_of_mem hr
 have:=h3 i hi
 rw [List.getD_eq_getElem?_getD,List.getElem?_eq_getElem hi] at this
 exact this
theorem matBytes_of {l : List (List Int)} (h : ∀ r ∈ l,(r.length≤maxLen∧∀ x ∈ r,(Lit.int .u8 x).wf=true)) : matBytes l:=fun r hr=>Bytes.of_wf (h r hr).2
theorem sqN_good {l : List (List Int)} (h : goodM l=true) (hb : matBytes l) (e : l.length=(l.getD 0 []).length) : sqN l=true:=by
 unfold sqN
 rw [sqM_good h hb,decide_eq_true (goodM_iff h).1.1,decide_eq_true e.symm]
 rfl
theorem spec_l2Inverse.ev {l : List (List Int)} (hs : sqN l=true) : spec_l2Inverse.f l=some ((redP l (idM l.length) l.length).1.map Prod.snd,decide ((redP l (idM l.length) l.length).2=l.length)):=by
 unfold spec_l2Inverse.f
 rw [if_pos hs]
theorem invM_yes {l : List (List Int)} (h : (redP l (idM l.length) l.length).2=l.length) : invM l=((redP l (idM l.length) l.length).1.map Prod.snd,true):=by
 unfold invM
 rw [if_neg (by omega)]
theorem invM_no {l : List (List Int)} (h : ¬ (redP l (idM l.length) l.length).2=l.length) : invM l=([],false):=by
 unfold invM
 have:=red_rank_le l (idM l.length) l.length
 rw [if_pos (by omega)]
theorem invM_ok {l : List (List Int)} (h : sqN l=true) : ((invM l).2=true→(invM l).1.length=l.length)∧(∀ r ∈ (invM l).1,okI l.length r)∧(invM l).1.length≤l.length:=by
 obtain ⟨h1,h2,h3⟩:=sqN_iff.1 h
 by_cases e : (redP l (idM l.length) l.length).2=l.length
 ·rw [invM_yes e]
  have hl : ((redP l (idM l.length) l.length).1.map Prod.snd).length=l.length:=by rw [List.length_map,redP_length _ _ _ (by rw [KitN.idM_length])]
  exact ⟨fun _=>hl,snd_all (redP_ok (n:=l.length) h3 (idM_ok l.length)),by show ((redP l (idM l.length) l.length).1.map Prod.snd).length≤_;omega⟩
 ·rw [invM_no e]
  exact ⟨fun z=>(by cases z),fun r hr=>(by cases hr),Nat.zero_le _⟩

theorem spec_l1Dot.ev_l0 (v w : List Int) (hv : Bytes v) (hw : Bytes w) (hl : v.length=w.length) (hs : v.length < 140737488355328) : ∀ (n i : Nat) (o : Int),i+n=v.length→Byte o →
  Ev (fun k=>spec_l1Dot.l0 k v w o (v.length : Int) (i : Int)) (gx o (dotV (v.drop i) (w.drop i)))
 | 0,i,o,hi,ho=>by
  refine Ev.step (fun k=>spec_l1Dot.l0.eq_2 _ _ _ _ _ k) ?_
  refine ev_neg (by omega) (ev_now ?_)
  rw [List.drop_of_length_le (by omega)]
  exact (gx_zero ho).symm
 | n+1,i,o,hi,ho=>by
  refine Ev.step (fun k=>spec_l1Dot.l0.eq_2 _ _ _ _ _ k) ?_
  refine ev_pos (by omega) (ev_pos (by omega) (ev_pos (by omega) (ev_pos (by omega) ?_)))
  have bv : Byte (rd v (i : Int)):=bytes_rd hv (by omega)
  have bw : Byte (rd w (i : Int)):=bytes_rd hw (by omega)
  refine ev_bind (spec_l1Times.ev bv bw) ?_
  have bm:=Byte.mul bv (rd w (i : Int))
  have bg:=Byte.gx ho bm
  rw [inc (by omega),xor_u8 ho bm]
  refine ev_eq (spec_l1Dot.ev_l0 v w hv hw hl hs n (i+1) _ (by omega) bg) ?_
  rw [drop_cons (l:=v) (i:=i) (by omega),drop_cons (l:=w) (i:=i) (by omega),rd_get (by omega),rd_get (by omega),dotV,gx_assoc]
theorem spec_l1Dot.ev {v w : List Int} (hv : Bytes v) (hw : Bytes w) (hl : v.length=w.length) (hs : v.length < 140737488355328) : Ev (fun k=>spec_l1Dot.f k v w) (dotV v w):=by
 unfold spec_l1Dot.f
 refine ev_eq (spec_l1Dot.ev_l0 v w hv hw hl hs v.length 0 0 (by omega) .zero) ?_
 exact zero_gx (dotV_byte hv)

def applyM (m : List (List Int)) (v : List Int) : List Int:=m.map fun r=>dotV r v
theorem applyM_length (m : List (List Int)) (v : List Int) : (applyM m v).length=m.length:=by simp [applyM]
theorem applyM_bytes {m : List (List Int)} (h : matBytes m) (v : List Int) : Bytes (applyM m v):=by
 intro x hx
 simp only [applyM,List.mem_map] at hx
 obtain ⟨r,hr,rfl⟩:=hx
 exact dotV_byte (h r hr)
theorem spec_l2Apply.ev_l0 (m : List (List Int)) (v : List Int) (hv : Bytes v) (hn : v.length≤1048576) (hr : ∀ r ∈ m,Bytes r∧r.length=v.length) (hl : m.length≤1048576) : ∀ (d i : Nat) (o : List Int),i+d=m.length→o=(applyM m v).take i →
  Ev (fun k=>spec_l2Apply.l0 k v o m (m.length : Int) (i : Int)) (applyM m v)
 | 0,i,o,hi,ho=>by
  refine Ev.step (fun k=>spec_l2Apply.l0.eq_2 _ _ _ _ _ k) ?_
  refine ev_neg (by omega) (ev_now ?_)
  rw [ho,List.take_of_length_le (by rw [applyM_length];omega)]
 | d+1,i,o,hi,ho=>by
  have hlen : o.length=i:=by rw [ho,List.length_take,applyM_length];omega
  have hri:=hr _ (List.getElem_mem (show i < m.length by omega))
  refine Ev.step (fun k=>spec_l2Apply.l0.eq_2 _ _ _ _ _ k) ?_
  refine ev_pos (by omega) (ev_pos (by omega) (ev_pos (by omega) ?_))
  rw [rdSS _ i (by omega)]
  refine ev_bind (spec_l1Dot.ev hri.1 hv hri.2 (by omega)) (ev_pos (by omega) ?_)
  rw [inc (by omega)]
  refine spec_l2Apply.ev_l0 m v hv hn hr hl d (i+1) _ (by omega) ?_
  rw [List.take_succ_eq_append_getElem (by rw [applyM_length];omega),← ho]
  simp [applyM]
theorem spec_l2Apply.ev {m : List (List Int)} {v : List Int} (hv : Bytes v) (hn : v.length≤1048576) (hr : ∀ r ∈ m,Bytes r∧r.length=v.length) (hl : m.length≤1048576) : Ev (fun k=>spec_l2Apply.f k m v) (applyM m v):=by
 unfold spec_l2Apply.f
 exact spec_l2Apply.ev_l0 m v hv hn hr hl m.length 0 [] (by omega) rfl

theorem spec_l1In.ev (a b c : Int) : spec_l1In.f a b c=some (decide (b≤a∧a≤c)):=by
 unfold spec_l1In.f
 by_cases h : a ≥ b
 ·rw [if_pos h];simp [h]
 ·rw [if_neg h];simp;omega

theorem spec_GoodMsr.ev (n k : Int) : spec_GoodMsr.f n k=some (decide (GoodMsr n k)):=by
 unfold spec_GoodMsr.f
 simp only [spec_l1In.ev,Option.bind_some,decide_eq_true_eq]
 by_cases h : 2≤k∧k≤4
 ·have e : wrap64 (wrap64 (2*k) - 1)=2*k - 1:=by unfold wrap64;omega
  simp [h,e]
 ·simp [h]

theorem spec_l5X.ev (j : Nat) (hj : j < 4294967296) : Ev (fun k=>spec_l5X.f k (j : Int)) (nodeX j):=by
 unfold spec_l5X.f
 rw [inc (by omega)]
 exact ev_bind (spec_l1Power.ev byte3 (j+1) (by omega)) (ev_now rfl)

theorem spec_l5F.ev (n : Int) (a j : Nat) (ha : a≤3) (hj : j < 4294967296) : Ev (fun k=>spec_l5F.f k n ((a+1 : Nat) : Int) (j : Int)) (pow (nodeX j) a):=by
 unfold spec_l5F.f
 have e : wrap64 (((a+1 : Nat) : Int) - 1)=(a : Int):=by unfold wrap64;omega
 rw [e]
 exact ev_bind (spec_l5X.ev j hj) (ev_bind (spec_l1Power.ev (nodeX_byte j) a (by omega)) (ev_now rfl))

theorem spec_l5Short.ev_l0 (n : Int) (a j : Nat) (ha : a≤3) (hj : j < 4294967296) : ∀ (d i : Nat) (o : List Int),i+d=a→o=(shortR a j).take i →
  Ev (fun k=>spec_l5Short.l0 k (j : Int) o (i : Int) n ((a+1 : Nat) : Int)) (shortR a j)
 | 0,i,o,hi,ho=>by
  have e : wrap64 (((a+1 : Nat) : Int) - 1)=(a : Int):=by unfold wrap64;omega
  refine Ev.step (fun k=>spec_l5Short.l0.eq_2 _ _ _ _ _ k) ?_
  rw [e]
  refine ev_neg (by omega) (ev_now ?_)
  rw [ho,List.take_of_length_le (by rw [shortR_length];omega)]
 | d+1,i,o,hi,ho=>by
  have e : wrap64 (((a+1 : Nat) : Int) - 1)=(a : Int):=by unfold wrap64;omega
  have hl : o.length≤3:=by rw [ho,List.length_take,shortR_length];omega
  refine Ev.step (fun k=>spec_l5Short.l0.eq_2 _ _ _ _ _ k) ?_
  rw [e]
  refine ev_pos (by omega) ?_
  refine ev_bind (spec_l5X.ev j hj) (ev_bind (spec_l1Power.ev (nodeX_byte j) i (by omega)) (ev_pos (by omega) ?_))
  rw [inc (by omega)]
  exact spec_l5Short.ev_l0 n a j ha hj d (i+1) _ (by omega) (by rw [shortR_succ a j i (by omega),← ho])
theorem spec_l5Short.ev (n : Int) (a j : Nat) (ha : a≤3) (hj : j < 4294967296) : Ev (fun k=>spec_l5Short.f k n ((a+1 : Nat) : Int) (j : Int)) (shortR a j):=by
 unfold spec_l5Short.f
 exact spec_l5Short.ev_l0 n a j ha hj a 0 [] (by omega) rfl

theorem spec_l5Row.ev (n : Int) (a j : Nat) (ha : a≤3) (hj : j < 4294967296) : Ev (fun k=>spec_l5Row.f k n ((a+1 : Nat) : Int) (j : Int)) (msrRow a j):=by
 unfold spec_l5Row.f
 have hl:=shortR_length a j
 have hs:=scale_length (pow (nodeX j) a) (shortR a j)
 refine ev_bind (spec_l5Short.ev n a j ha hj) ?_
 simp only [Option.bind_some,List.nil_append,List.length_nil]
 refine ev_pos (by omega) ?_
 refine ev_bind (spec_l5F.ev n a j ha hj) (ev_bind (spec_l1Scale.ev (Byte.pow (nodeX_byte j) a) (shortR_bytes a j) (by omega)) (ev_pos (by omega) (ev_now rfl)))

def hlpN (l : List (S147)) : List Int:=l.map (·.f0)
def hlpB (l : List (S147)) : List Int:=l.map (·.f1)
theorem hlpN_length (l : List (S147)) : (hlpN l).length=l.length:=by simp [hlpN]
theorem hlpB_length (l : List (S147)) : (hlpB l).length=l.length:=by simp [hlpB]
theorem rdHp {l : List (S147)} {i : Nat} (h : i < l.length) : rd_T147 l (i : Int)=l[i]:=by unfold rd_T147;simp [List.getD,h]
theorem hlpN_rd {l : List (S147)} {i : Nat} (h : i < l.length) : rd (hlpN l) (i : Int)=(l[i]).f0:=by rw [rd_get (by rw [hlpN_length];exact h)];simp [hlpN]
def hlpOk (l : List (S147)) (n : Nat) (lost : Int) : Bool:=(List.range l.length).all fun i=>riseAt (hlpN l) n i && decide (rd (hlpN l) (i : Int) ≠ lost)
theorem hlpOk_yes {l : List (S147)} {n : Nat} {lost : Int} (h : ∀ j,j < l.length→riseAt (hlpN l) n j=true∧rd (hlpN l) (j : Int) ≠ lost) : hlpOk l n lost=true:=by
 unfold hlpOk
 rw [List.all_eq_true]
 intro x hx
 have:=h x (by simpa using hx)
 rw [this.1,decide_eq_true this.2];rfl
theorem hlpOk_no {l : List (S147)} {n i : Nat} {lost : Int} (hi : i < l.length) (h : riseAt (hlpN l) n i=false∨rd (hlpN l) (i : Int)=lost) : hlpOk l n lost=false:=by
 unfold hlpOk
 rw [List.all_eq_false]
 refine ⟨i,by simpa using hi,?_⟩
 rcases h with h | h
 ·rw [h];simp
 ·rw [decide_eq_false (fun z=>z h)];simp
/-- The rows of the helpers. -/
def regM (a : Nat) (l : List (S147)) : List (List Int):=l.map fun x=>msrRow a x.f0.toNat
theorem regM_length (a : Nat) (l : List (S147)) : (regM a l).length=l.length:=by simp [regM]
theorem regM_sq {a : Nat} {l : List (S147)} (h1 : 1≤a) (h3 : a≤3) (hl : l.length=2*a) : sqN (regM a l)=true:=by
 refine sqN_iff.2 ⟨by rw [regM_length];omega,by rw [regM_length];omega,fun r hr=>?_⟩
 obtain ⟨x,_,rfl⟩:=List.mem_map.1 hr
 exact ⟨msrRow_bytes a _,by rw [msrRow_length,regM_length,hl]⟩
def regTail (a : Nat) (lost : Nat) (l : List (S147)) : Int × List Int × Bool:=if (invM (regM a l)).2=true then ((lost : Int),addV ((applyM (invM (regM a l)).1 (hlpB l)).take a) (scale (pow (nodeX lost) a) ((applyM (invM (regM a l)).1 (hlpB l)).drop a)),true) else (0,[],false)
def regVal (n k lost : Int) (l : List (S147)) : Int × List Int × Bool:=if (GoodMsr n k∧0≤lost∧lost≤n - 1)∧(l.length : Int)=2*(k - 1)∧hlpOk l n.toNat lost=true then regTail (k - 1).toNat lost.toNat l else (0,[],false)
theorem reg_y {a : Nat} {l : List (S147)} (h1 : 1≤a) (h3 : a≤3) (hl : l.length=2*a) (hz : (invM (regM a l)).2=true) : (applyM (invM (regM a l)).1 (hlpB l)).length=2*a∧Bytes (applyM (invM (regM a l)).1 (hlpB l)):=by
 have hs:=regM_sq h1 h3 hl
 obtain ⟨o1,o2,o3⟩:=invM_ok hs
 exact ⟨by rw [applyM_length,o1 hz,regM_length,hl],applyM_bytes (fun r hr=>(o2 r hr).1) _⟩
theorem spec_RegeneratePiece.ev_l0 (a m lost : Nat) (hg : GoodMsr (m : Int) ((a+1 : Nat) : Int)) (hlost : lost < m) (l : List (S147)) (hl : l.length=2*a) (hb : Bytes (hlpB l)) (hw : ∀ x ∈ l,(Lit.int .i64 x.f0).wf=true) : ∀ (d i : Nat) (g : List Int) (M : List (List Int)),i+d=l.length→g=(hlpB l).take i→M=(regM a l).take i→(∀ j,j < i→riseAt (hlpN l) m j=true∧rd (hlpN l) (j : Int) ≠ (lost : Int)) →
  Ev (fun q=>spec_RegeneratePiece.l0 q (lost : Int) l (a : Int) g l (l.length : Int) (i : Int) (m : Int) ((a+1 : Nat) : Int) M) (if hlpOk l m (lost : Int)=true then regTail a lost l else (0,[],false))
 | 0,i,g,M,hi,hgi,hM,hall=>by
  have ha1 : 1≤a:=by omega
  have ha3 : a≤3:=by omega
  have hs:=regM_sq ha1 ha3 hl
  obtain ⟨o1,o2,o3⟩:=invM_ok hs
  refine Ev.step (fun k=>spec_RegeneratePiece.l0.eq_2 _ _ _ _ _ _ _ _ _ _ k) ?_
  refine ev_neg (by omega) ?_
  rw [if_pos (hlpOk_yes (fun j hj=>hall j (by omega))),hgi,hM,List.take_of_length_le (l:=regM a l) (by rw [regM_length];omega),List.take_of_length_le (l:=hlpB l) (by rw [hlpB_length];omega),spec_l2Inverse.ev hs]
  simp only [Option.bind_some]
  unfold regTail
  by_cases z : (redP (regM a l) (idM (regM a l).length) (regM a l).length).2=(regM a l).length
  ·have hz : (invM (regM a l)).2=true:=by rw [invM_yes z]
   obtain ⟨y1,y2⟩:=reg_y ha1 ha3 hl hz
   rw [invM_yes z] at o1 o2 o3 y1 y2 ⊢
   rw [if_pos rfl]
   have hml : ((redP (regM a l) (idM (regM a l).length) (regM a l).length).1.map Prod.snd).length≤6:=Nat.le_trans o3 (by rw [regM_length];omega)
   refine ev_pos (decide_eq_true z) (ev_bind (spec_l2Apply.ev hb (by rw [hlpB_length];omega) (fun r hr=>⟨(o2 r hr).1,by rw [(o2 r hr).2,regM_length,hlpB_length]⟩) (by omega)) ?_)
   refine ev_pos (by omega) (ev_pos (by rw [y1];omega) ?_)
   simp only [Int.toNat_natCast]
   generalize applyM ((redP (regM a l) (idM (regM a l).length) (regM a l).length).1.map Prod.snd) (hlpB l)=y at y1 y2 ⊢
   refine ev_bind (spec_l5F.ev _ a lost ha3 (by omega)) (ev_bind (spec_l1Scale.ev (Byte.pow (nodeX_byte lost) a) (y2.drop a) (by rw [List.length_drop];omega)) (ev_bind (spec_l1Add.ev (y2.take a) (scale_bytes (Byte.pow (nodeX_byte lost) a) _) (by rw [scale_length,List.length_take,List.length_drop];omega) (by rw [List.length_take];omega)) (ev_now rfl)))
  ·rw [invM_no z,if_neg (by simp)]
   exact ev_neg (by simpa using z) (ev_now rfl)
 | d+1,i,g,M,hi,hgi,hM,hall=>by
  have ha1 : 1≤a:=by omega
  have ha3 : a≤3:=by omega
  have hil : i < l.length:=by omega
  have ih:=fun g' M' hg' hM' hall'=>spec_RegeneratePiece.ev_l0 a m lost hg hlost l hl hb hw d (i+1) g' M' (by omega) hg' hM' hall'
  have hgl : g.length=i:=by rw [hgi,List.length_take,hlpB_length];omega
  have hMl : M.length=i:=by rw [hM,List.length_take,regM_length];omega
  have hx:=hlpN_rd hil
  refine Ev.step (fun k=>spec_RegeneratePiece.l0.eq_2 _ _ _ _ _ _ _ _ _ _ k) ?_
  rw [rdHp hil]
  refine ev_pos (by omega) (ev_pos (by omega) (ev_pos (by omega) ?_))
  rw [show wrap64 ((m : Int) - 1)=(m : Int) - 1 by unfold wrap64;omega]
  simp only [spec_l1In.ev,Option.bind_some,decide_eq_true_eq]
  by_cases c : 0≤(l[i]).f0∧(l[i]).f0≤(m : Int) - 1
  ·refine ev_pos c ?_
   by_cases c2 : (l[i]).f0=(lost : Int)
   ·refine ev_pos c2 (ev_now ?_)
    rw [hlpOk_no hil (.inr (hx.trans c2)),if_neg (by simp)]
   ·refine ev_neg c2 ?_
    obtain ⟨j,hj⟩ : ∃ j : Nat,(l[i]).f0=(j : Int):=⟨(l[i]).f0.toNat,by omega⟩
    have hrow:=spec_l5Row.ev (m : Int) a j ha3 (by omega)
    have hgo : riseAt (hlpN l) m i=true→Ev (fun k=>(spec_l5Row.f k (m : Int) ((a+1 : Nat) : Int) ((l[i]).f0)).bind fun t192=>(if M.length < 5864062014805 then (if g.length < 140737488355328 then (spec_RegeneratePiece.l0 k (lost : Int) l (a : Int) (g ++ [(l[i]).f1]) l (l.length : Int) (wrap64 ((i : Int)+1)) (m : Int) ((a+1 : Nat) : Int) (M ++ [t192])) else (none)) else (none))) (if hlpOk l m (lost : Int)=true then regTail a lost l else (0,[],false)):=by
     intro hr
     rw [hj]
     refine ev_bind hrow (ev_pos (by omega) (ev_pos (by omega) ?_))
     rw [inc (by omega)]
     refine ih _ _ ?_ ?_ (fun t ht=>by by_cases e : t=i;exact e ▸ ⟨hr,by rw [hx];exact c2⟩;exact hall t (by omega))
     ·rw [List.take_succ_eq_append_getElem (by rw [hlpB_length];exact hil),← hgi];simp [hlpB]
     ·rw [List.take_succ_eq_append_getElem (by rw [regM_length];exact hil),← hM];simp [regM,hj]
    by_cases hz : i=0
    ·subst hz
     exact ev_neg (by omega) (hgo (riseAt_yes (by rw [hx];exact c) (.inl rfl)))
    ·have hp : i - 1 < l.length:=by omega
     refine ev_pos (by omega) ?_
     rw [show wrap64 ((i : Int) - 1)=((i - 1 : Nat) : Int) by unfold wrap64;omega,rdHp hp]
     refine ev_pos (by omega) (ev_pos (by omega) ?_)
     have hxp:=hlpN_rd hp
     by_cases c3 : (l[i - 1]).f0 < (l[i]).f0
     ·exact ev_neg (by omega) (hgo (riseAt_yes (by rw [hx];exact c) (.inr (by rw [hx,hxp];exact c3))))
     ·refine ev_pos (by omega) (ev_now ?_)
      rw [hlpOk_no hil (.inl (riseAt_no (fun y=>by rcases y.2 with w | w;exact hz w;rw [hx,hxp] at w;exact c3 w))),if_neg (by simp)]
  ·refine ev_neg c (ev_now ?_)
   rw [hlpOk_no hil (.inl (riseAt_no (fun y=>c (by rw [← hx];exact y.1)))),if_neg (by simp)]
theorem spec_RegeneratePiece.ev (n k lost : Int) (l : List (S147)) (hll : l.length≤1048576) (hb : Bytes (hlpB l)) (hw : ∀ x ∈ l,(Lit.int .i64 x.f0).wf=true) : Ev (fun q=>spec_RegeneratePiece.f q n k lost l) (regVal n k lost l):=by
 unfold spec_RegeneratePiece.f regVal
 simp only [spec_GoodMsr.ev,spec_l1In.ev,Option.bind_some,decide_eq_true_eq]
 by_cases h : GoodMsr n k
 ·refine ev_pos h ?_
  rw [show wrap64 (n - 1)=n - 1 by unfold wrap64;omega,show wrap64 (k - 1)=k - 1 by unfold wrap64;omega,show wrap64 (2*(k - 1))=2*(k - 1) by unfold wrap64;omega]
  by_cases h2 : 0≤lost∧lost≤n - 1
  ·refine ev_pos h2 ?_
   refine Ev.step (fun k=>spec_RegeneratePiece.j0.eq_2 _ _ _ _ _ _ k) ?_
   obtain ⟨a,m,rfl,rfl,h3⟩:=GoodMsr_nat h
   obtain ⟨t,rfl⟩:=Int.eq_ofNat_of_zero_le h2.1
   have e1 : (((a+1 : Nat) : Int) - 1)=(a : Int):=by omega
   rw [e1,Int.toNat_natCast,Int.toNat_natCast,Int.toNat_natCast]
   by_cases h4 : l.length=2*a
   ·refine ev_neg (by simp only [bne_iff_ne];omega) ?_
    refine ev_eq (spec_RegeneratePiece.ev_l0 a m t h (by omega) l h4 hb hw l.length 0 [] [] (by omega) rfl rfl (fun j hj=>by omega)) ?_
    by_cases h5 : hlpOk l m (t : Int)=true
    ·rw [if_pos h5,if_pos ⟨⟨h,h2⟩,by omega,h5⟩]
    ·rw [if_neg h5,if_neg (fun y=>h5 y.2.2)]
   ·rw [if_neg (fun y=>h4 (by have:=y.2.1;omega))]
    exact ev_pos (by simp only [bne_iff_ne];omega) (ev_now rfl)
  ·rw [if_neg (fun y=>h2 y.1.2)]
   refine ev_neg h2 ?_
   refine Ev.step (fun k=>spec_RegeneratePiece.j0.eq_2 _ _ _ _ _ _ k) ?_
   exact ev_pos rfl (ev_now rfl)
 ·rw [if_neg (fun y=>h y.1.1)]
  refine ev_neg h ?_
  refine Ev.step (fun k=>spec_RegeneratePiece.j0.eq_2 _ _ _ _ _ _ k) ?_
  exact ev_pos rfl (ev_now rfl)
theorem regVal_ok (n k lost : Int) (l : List (S147)) : (regVal n k lost l).2.1.length≤16:=by
 unfold regVal
 by_cases h : (GoodMsr n k∧0≤lost∧lost≤n - 1)∧(l.length : Int)=2*(k - 1)∧hlpOk l n.toNat lost=true
 ·rw [if_pos h]
  obtain ⟨⟨h1,h2⟩,h3,h4⟩:=h
  obtain ⟨a,m,rfl,rfl,h5⟩:=GoodMsr_nat h1
  have e1 : (((a+1 : Nat) : Int) - 1).toNat=a:=by omega
  rw [e1]
  unfold regTail
  split
  ·show (addV _ _).length≤16
   rw [addV_length,List.length_take]
   omega
  ·exact Nat.zero_le _
 ·rw [if_neg h];exact Nat.zero_le _

theorem laws_toMsr.ev (n k : Int) : laws_toMsr.f n k=some (n,k):=rfl

theorem laws_toHelp.ev (a b : Int) : laws_toHelp.f a b=some (a,b):=rfl

def toHp (x : S153) : S147:=⟨x.f0,x.f1⟩
theorem laws_toHelpS.ev_l0 (l : List (S153)) (hl : l.length < 4611686018427387904) : ∀ (n i : Nat) (o : List (S147)),i+n=l.length→o.length=l.length→o.take i=(l.map toHp).take i →
  Ev (fun k=>laws_toHelpS.l0 k l o (i : Int)) (l.map toHp)
 | 0,i,o,hi,ho,ht=>by
  refine Ev.step (fun k=>laws_toHelpS.l0.eq_2 _ _ _ k) ?_
  refine ev_neg (by omega) (ev_now ?_)
  rw [List.take_of_length_le (by omega),List.take_of_length_le (by simp;omega)] at ht
  exact ht
 | n+1,i,o,hi,ho,ht=>by
  refine Ev.step (fun k=>laws_toHelpS.l0.eq_2 _ _ _ k) ?_
  simp only [laws_toHelp.ev,Option.bind_some]
  refine ev_pos (by omega) (ev_pos (by omega) (ev_pos (by omega) ?_))
  rw [inc (by omega),Int.toNat_natCast]
  refine laws_toHelpS.ev_l0 l hl n (i+1) _ (by omega) (by simpa using ho) ?_
  rw [List.take_succ_eq_append_getElem (by simp;omega),List.take_succ_eq_append_getElem (by simp;omega),← ht]
  have e : rd_T153 l (i : Int)=l[i]'(by omega):=by unfold rd_T153;simp [List.getD,show i < l.length by omega]
  simp [e,toHp,List.take_set_of_le]
theorem laws_toHelpS.ev (l : List (S153)) (hl : l.length≤1048576) : Ev (fun k=>laws_toHelpS.f k l) (l.map toHp):=by
 unfold laws_toHelpS.f
 refine ev_pos (by omega) (ev_pos (by omega) ?_)
 exact laws_toHelpS.ev_l0 l (by omega) l.length 0 _ (by omega) (by simp) rfl

theorem impl_identity.ev_l0 (n : Nat) (hn : n≤1048576) : ∀ (d i : Nat) (o : List (List Int)),i+d=n→o=(idM n).take i→Ev (fun k=>impl_identity.l0 k (n : Int) o (n : Int) (i : Int)) (idM n)
 | 0,i,o,hi,ho=>by
  refine Ev.step (fun k=>impl_identity.l0.eq_2 _ _ _ _ k) ?_
  refine ev_neg (by omega) (ev_now ?_)
  rw [ho,List.take_of_length_le (by simp [idM];omega)]
 | d+1,i,o,hi,ho=>by
  have hl : o.length=i:=by rw [ho,List.length_take];simp [idM];omega
  refine Ev.step (fun k=>impl_identity.l0.eq_2 _ _ _ _ k) ?_
  simp only [Option.bind_some,Int.toNat_natCast,List.length_replicate]
  refine ev_pos (by omega) (ev_pos (by omega) (ev_pos (by omega) (ev_pos (by omega) (ev_pos (by omega) (ev_pos (by omega) ?_)))))
  rw [inc (by omega)]
  refine impl_identity.ev_l0 n hn d (i+1) _ (by omega) ?_
  rw [List.take_succ_eq_append_getElem (by simp [idM];omega),← ho]
  simp [idM]
theorem impl_identity.ev (n : Nat) (hn : n≤1048576) : Ev (fun k=>impl_identity.f k (n : Int)) (idM n):=by
 unfold impl_identity.f
 exact impl_identity.ev_l0 n hn n 0 [] (by omega) rfl

theorem impl_added.ev_l0 (v w : List Int) (hv : Bytes v) (hw : Bytes w) (hl : v.length=w.length) (hs : v.length < 140737488355328) : ∀ (n i : Nat) (o : List Int),i+n=v.length→o=(addV v w).take i →
  Ev (fun k=>impl_added.l0 k w o v (v.length : Int) (i : Int)) (addV v w)
 | 0,i,o,hi,ho=>by
  refine Ev.step (fun k=>impl_added.l0.eq_2 _ _ _ _ _ k) ?_
  refine ev_neg (by omega) (ev_now ?_)
  subst ho
  rw [List.take_of_length_le (by rw [addV_length];omega)]
 | n+1,i,o,hi,ho=>by
  have hz:=addV_length v w
  have hlen : o.length=i:=by rw [ho,List.length_take,hz];omega
  refine Ev.step (fun k=>impl_added.l0.eq_2 _ _ _ _ _ k) ?_
  refine ev_pos (by omega) (ev_pos (by omega) (ev_pos (by omega) (ev_pos (by omega) (ev_pos (by omega) ?_))))
  rw [inc (by omega),xor_u8 (bytes_rd hv (by omega)) (bytes_rd hw (by omega)),rd_get (by omega),rd_get (by omega)]
  refine impl_added.ev_l0 v w hv hw hl hs n (i+1) _ (by omega) ?_
  rw [List.take_succ_eq_append_getElem (by omega),← ho]
  simp [addV]
theorem impl_added.ev {v w : List Int} (hv : Bytes v) (hw : Bytes w) (hl : v.length=w.length) (hs : v.length < 140737488355328) : Ev (fun k=>impl_added.f k v w) (addV v w):=by
 unfold impl_added.f
 exact impl_added.ev_l0 v w hv hw hl hs v.length 0 [] (by omega) rfl

theorem impl_scaled.ev_l0 (a : Int) (ha : Byte a) (v : List Int) (hv : Bytes v) (hs : v.length < 140737488355328) : ∀ (n i : Nat) (o : List Int),i+n=v.length→o=(scale a v).take i →
  Ev (fun k=>impl_scaled.l0 k a o v (v.length : Int) (i : Int)) (scale a v)
 | 0,i,o,hi,ho=>by
  refine Ev.step (fun k=>impl_scaled.l0.eq_2 _ _ _ _ _ k) ?_
  refine ev_neg (by omega) (ev_now ?_)
  subst ho
  rw [List.take_of_length_le (by rw [scale_length];omega)]
 | n+1,i,o,hi,ho=>by
  have hz:=scale_length a v
  have hlen : o.length=i:=by rw [ho,List.length_take,hz];omega
  refine Ev.step (fun k=>impl_scaled.l0.eq_2 _ _ _ _ _ k) ?_
  refine ev_pos (by omega) (ev_pos (by omega) (ev_pos (by omega) ?_))
  refine ev_bind (impl_Times.ev ha (bytes_rd hv (by omega))) ?_
  refine ev_pos (by omega) ?_
  rw [inc (by omega),rd_get (by omega)]
  refine impl_scaled.ev_l0 a ha v hv hs n (i+1) _ (by omega) ?_
  rw [List.take_succ_eq_append_getElem (by omega),← ho]
  simp [scale]
theorem impl_scaled.ev {a : Int} (ha : Byte a) {v : List Int} (hv : Bytes v) (hs : v.length < 140737488355328) : Ev (fun k=>impl_scaled.f k a v) (scale a v):=by
 unfold impl_scaled.f
 exact impl_scaled.ev_l0 a ha v hv hs v.length 0 [] (by omega) rfl

theorem impl_Inverse.ev {a : Int} (ha : Byte a) : Ev (fun k=>impl_Inverse.f k a) (inv a):=by
 unfold impl_Inverse.f
 exact ev_bind (impl_power.ev ha 254 (by decide)) (ev_now (inv_pow a).symm)

theorem impl_inverseOf.ev {l : List (List Int)} (hs : sqN l=true) : impl_inverseOf.f l=some (invM l):=by
 unfold impl_inverseOf.f
 rw [if_pos hs]

theorem impl_dot.ev_l0 (v w : List Int) (hv : Bytes v) (hw : Bytes w) (hl : v.length=w.length) (hs : v.length < 140737488355328) : ∀ (n i : Nat) (o : Int),i+n=v.length→Byte o →
  Ev (fun k=>impl_dot.l0 k w o v (v.length : Int) (i : Int)) (gx o (dotV (v.drop i) (w.drop i)))
 | 0,i,o,hi,ho=>by
  refine Ev.step (fun k=>impl_dot.l0.eq_2 _ _ _ _ _ k) ?_
  refine ev_neg (by omega) (ev_now ?_)
  rw [List.drop_of_length_le (by omega)]
  exact (gx_zero ho).symm
 | n+1,i,o,hi,ho=>by
  refine Ev.step (fun k=>impl_dot.l0.eq_2 _ _ _ _ _ k) ?_
  refine ev_pos (by omega) (ev_pos (by omega) (ev_pos (by omega) (ev_pos (by omega) ?_)))
  have bv : Byte (rd v (i : Int)):=bytes_rd hv (by omega)
  have bw : Byte (rd w (i : Int)):=bytes_rd hw (by omega)
  refine ev_bind (impl_Times.ev bv bw) ?_
  have bm:=Byte.mul bv (rd w (i : Int))
  have bg:=Byte.gx ho bm
  rw [inc (by omega),xor_u8 ho bm]
  refine ev_eq (impl_dot.ev_l0 v w hv hw hl hs n (i+1) _ (by omega) bg) ?_
  rw [drop_cons (l:=v) (i:=i) (by omega),drop_cons (l:=w) (i:=i) (by omega),rd_get (by omega),rd_get (by omega),dotV,gx_assoc]
theorem impl_dot.ev {v w : List Int} (hv : Bytes v) (hw : Bytes w) (hl : v.length=w.length) (hs : v.length < 140737488355328) : Ev (fun k=>impl_dot.f k v w) (dotV v w):=by
 unfold impl_dot.f
 refine ev_eq (impl_dot.ev_l0 v w hv hw hl hs v.length 0 0 (by omega) .zero) ?_
 exact zero_gx (dotV_byte hv)

theorem impl_solve.ev_l0 (m : List (List Int)) (v : List Int) (hv : Bytes v) (hn : v.length≤1048576) (hr : ∀ r ∈ m,Bytes r∧r.length=v.length) (hl : m.length≤1048576) : ∀ (d i : Nat) (o : List Int),i+d=m.length→o=(applyM m v).take i →
  Ev (fun k=>impl_solve.l0 k v o m (m.length : Int) (i : Int)) (applyM m v,true)
 | 0,i,o,hi,ho=>by
  refine Ev.step (fun k=>impl_solve.l0.eq_2 _ _ _ _ _ k) ?_
  refine ev_neg (by omega) (ev_now ?_)
  rw [ho,List.take_of_length_le (by rw [applyM_length];omega)]
 | d+1,i,o,hi,ho=>by
  have hlen : o.length=i:=by rw [ho,List.length_take,applyM_length];omega
  have hri:=hr _ (List.getElem_mem (show i < m.length by omega))
  refine Ev.step (fun k=>impl_solve.l0.eq_2 _ _ _ _ _ k) ?_
  refine ev_pos (by omega) (ev_pos (by omega) (ev_pos (by omega) ?_))
  rw [rdSS _ i (by omega)]
  refine ev_bind (impl_dot.ev hri.1 hv hri.2 (by omega)) (ev_pos (by omega) ?_)
  rw [inc (by omega)]
  refine impl_solve.ev_l0 m v hv hn hr hl d (i+1) _ (by omega) ?_
  rw [List.take_succ_eq_append_getElem (by rw [applyM_length];omega),← ho]
  simp [applyM]
theorem impl_solve.ev {l : List (List Int)} {v : List Int} (hs : sqN l=true) (hv : Bytes v) (hn : v.length=l.length) : Ev (fun k=>impl_solve.f k l v) (if (invM l).2=true then (applyM (invM l).1 v,true) else ([],false)):=by
 unfold impl_solve.f
 rw [impl_inverseOf.ev hs]
 simp only [Option.bind_some]
 have hl:=(sqN_iff.1 hs).2.1
 obtain ⟨h1,h2,h3⟩:=invM_ok hs
 by_cases z : (invM l).2=true
 ·rw [if_pos z]
  refine ev_pos z ?_
  exact impl_solve.ev_l0 (invM l).1 v hv (by omega) (fun r hr=>⟨(h2 r hr).1,by rw [(h2 r hr).2,hn]⟩) (by omega) (invM l).1.length 0 [] (by omega) rfl
 ·rw [if_neg z]
  exact ev_neg z (ev_now rfl)

theorem impl_within.ev (a b c : Int) : impl_within.f a b c=some (decide (b≤a∧a≤c)):=by
 unfold impl_within.f
 by_cases h : a ≥ b
 ·rw [if_pos h];simp [h]
 ·rw [if_neg h];simp;omega

theorem impl_GoodMsr.ev (n k : Int) : impl_GoodMsr.f n k=some (decide (GoodMsr n k)):=by
 unfold impl_GoodMsr.f
 simp only [impl_within.ev,Option.bind_some,decide_eq_true_eq]
 by_cases h : 2≤k∧k≤4
 ·have e : wrap64 (wrap64 (2*k) - 1)=2*k - 1:=by unfold wrap64;omega
  simp [h,e]
 ·simp [h]

theorem impl_Msr_isNode.ev (n k j : Int) : impl_Msr_isNode.f n k j=some (decide (GoodMsr n k∧0≤j∧j≤n - 1)):=by
 unfold impl_Msr_isNode.f
 simp only [impl_GoodMsr.ev,impl_within.ev,Option.bind_some,decide_eq_true_eq]
 by_cases h : GoodMsr n k
 ·have e : wrap64 (n - 1)=n - 1:=by unfold wrap64;omega
  rw [if_pos h,e]
  simp [h]
 ·rw [if_neg h]
  simp [h]

theorem impl_Msr_alpha.ev {n k : Int} (h : GoodMsr n k) : impl_Msr_alpha.f n k=some (k - 1):=by
 unfold impl_Msr_alpha.f
 have e : wrap64 (k - 1)=k - 1:=by unfold wrap64;omega
 rw [e]

theorem impl_Msr_powers.ev_l0 {n : Int} (a j : Nat) (hg : GoodMsr n ((a+1 : Nat) : Int)) : ∀ (d i : Nat) (o : List Int),i+d=a→o=(shortR a j).take i →
  Ev (fun k=>impl_Msr_powers.l0 k (nodeX j) o (a : Int) (i : Int) n ((a+1 : Nat) : Int)) (shortR a j,pow (nodeX j) a)
 | 0,i,o,hi,ho=>by
  have e : ((a+1 : Nat) : Int) - 1=(a : Int):=by omega
  refine Ev.step (fun k=>impl_Msr_powers.l0.eq_2 _ _ _ _ _ _ k) ?_
  refine ev_neg (by omega) ?_
  simp only [impl_Msr_alpha.ev hg,Option.bind_some,e]
  refine ev_bind (impl_power.ev (nodeX_byte j) a (by omega)) (ev_now ?_)
  rw [ho,List.take_of_length_le (by rw [shortR_length];omega)]
 | d+1,i,o,hi,ho=>by
  have hl : o.length≤3:=by rw [ho,List.length_take,shortR_length];omega
  refine Ev.step (fun k=>impl_Msr_powers.l0.eq_2 _ _ _ _ _ _ k) ?_
  refine ev_pos (by omega) ?_
  refine ev_bind (impl_power.ev (nodeX_byte j) i (by omega)) (ev_pos (by omega) ?_)
  rw [inc (by omega)]
  exact impl_Msr_powers.ev_l0 a j hg d (i+1) _ (by omega) (by rw [shortR_succ a j i (by omega),← ho])
theorem impl_Msr_powers.ev {n : Int} (a j : Nat) (hg : GoodMsr n ((a+1 : Nat) : Int)) (hj : j < 1000000) : Ev (fun k=>impl_Msr_powers.f k n ((a+1 : Nat) : Int) (j : Int)) (shortR a j,pow (nodeX j) a):=by
 unfold impl_Msr_powers.f
 have e : ((a+1 : Nat) : Int) - 1=(a : Int):=by omega
 rw [inc (by omega)]
 refine ev_bind (impl_power.ev byte3 (j+1) (by omega)) ?_
 simp only [impl_Msr_alpha.ev hg,Option.bind_some,e]
 exact impl_Msr_powers.ev_l0 a j hg a 0 [] (by omega) rfl

theorem impl_Msr_row.ev {n : Int} (a j : Nat) (hg : GoodMsr n ((a+1 : Nat) : Int)) (hj : j < 1000000) : Ev (fun k=>impl_Msr_row.f k n ((a+1 : Nat) : Int) (j : Int)) (msrRow a j):=by
 unfold impl_Msr_row.f
 have hl:=shortR_length a j
 have hs:=scale_length (pow (nodeX j) a) (shortR a j)
 refine ev_bind (impl_Msr_powers.ev a j hg hj) ?_
 dsimp only
 exact ev_bind (impl_scaled.ev (Byte.pow (nodeX_byte j) a) (shortR_bytes a j) (by omega)) (ev_pos (by omega) (ev_now rfl))

theorem impl_RegeneratePiece.ev_l0 (a m lost : Nat) (hg : GoodMsr (m : Int) ((a+1 : Nat) : Int)) (hlost : lost < m) (l : List (S147)) (hl : l.length=2*a) (hb : Bytes (hlpB l)) : ∀ (d i : Nat) (g : List Int) (M : List (List Int)),i+d=l.length→g=(hlpB l).take i→M=(regM a l).take i→(∀ j,j < i→riseAt (hlpN l) m j=true∧rd (hlpN l) (j : Int) ≠ (lost : Int)) →
  Ev (fun q=>impl_RegeneratePiece.l0 q (lost : Int) l M g l (l.length : Int) (i : Int) (m : Int) ((a+1 : Nat) : Int)) (if hlpOk l m (lost : Int)=true then regTail a lost l else (0,[],false))
 | 0,i,g,M,hi,hgi,hM,hall=>by
  have ha1 : 1≤a:=by omega
  have ha3 : a≤3:=by omega
  have hs:=regM_sq ha1 ha3 hl
  refine Ev.step (fun k=>impl_RegeneratePiece.l0.eq_2 _ _ _ _ _ _ _ _ _ k) ?_
  refine ev_neg (by omega) ?_
  rw [if_pos (hlpOk_yes (fun j hj=>hall j (by omega))),hgi,hM,List.take_of_length_le (l:=regM a l) (by rw [regM_length];omega),List.take_of_length_le (l:=hlpB l) (by rw [hlpB_length];omega)]
  refine ev_bind (impl_solve.ev hs hb (by rw [hlpB_length,regM_length])) ?_
  unfold regTail
  by_cases z : (invM (regM a l)).2=true
  ·obtain ⟨y1,y2⟩:=reg_y ha1 ha3 hl z
   rw [if_pos z,if_pos z]
   generalize applyM (invM (regM a l)).1 (hlpB l)=y at y1 y2 ⊢
   refine ev_pos rfl (ev_bind (impl_Msr_powers.ev a lost hg (by omega)) ?_)
   rw [impl_Msr_alpha.ev hg]
   simp only [Option.bind_some]
   rw [show (((a+1 : Nat) : Int) - 1)=(a : Int) by omega]
   refine ev_pos (by omega) (ev_pos (by rw [y1];omega) (ev_pos (by omega) (ev_pos (by rw [y1];omega) ?_)))
   simp only [Int.toNat_natCast]
   exact ev_bind (impl_scaled.ev (Byte.pow (nodeX_byte lost) a) (y2.drop a) (by rw [List.length_drop];omega)) (ev_bind (impl_added.ev (y2.take a) (scale_bytes (Byte.pow (nodeX_byte lost) a) _) (by rw [scale_length,List.length_take,List.length_drop];omega) (by rw [List.length_take];omega)) (ev_now rfl))
  ·rw [if_neg z,if_neg z]
   exact ev_neg (by simp) (ev_now rfl)
 | d+1,i,g,M,hi,hgi,hM,hall=>by
  have ha1 : 1≤a:=by omega
  have ha3 : a≤3:=by omega
  have hil : i < l.length:=by omega
  have ih:=fun g' M' hg' hM' hall'=>impl_RegeneratePiece.ev_l0 a m lost hg hlost l hl hb d (i+1) g' M' (by omega) hg' hM' hall'
  have hgl : g.length=i:=by rw [hgi,List.length_take,hlpB_length];omega
  have hMl : M.length=i:=by rw [hM,List.length_take,regM_length];omega
  have hx:=hlpN_rd hil
  refine Ev.step (fun k=>impl_RegeneratePiece.l0.eq_2 _ _ _ _ _ _ _ _ _ k) ?_
  rw [rdHp hil]
  refine ev_pos (by omega) (ev_pos (by omega) (ev_pos (by omega) ?_))
  simp only [impl_Msr_isNode.ev,Option.bind_some,decide_eq_true_eq]
  by_cases c : 0≤(l[i]).f0∧(l[i]).f0≤(m : Int) - 1
  ·refine ev_pos ⟨hg,c⟩ ?_
   by_cases c2 : (l[i]).f0=(lost : Int)
   ·refine ev_pos c2 (ev_now ?_)
    rw [hlpOk_no hil (.inr (hx.trans c2)),if_neg (by simp)]
   ·refine ev_neg c2 ?_
    obtain ⟨j,hj⟩ : ∃ j : Nat,(l[i]).f0=(j : Int):=⟨(l[i]).f0.toNat,by omega⟩
    have hrow:=impl_Msr_row.ev a j hg (by omega)
    have hgo : riseAt (hlpN l) m i=true→Ev (fun k=>(impl_Msr_row.f k (m : Int) ((a+1 : Nat) : Int) ((l[i]).f0)).bind fun t192=>(if M.length < 5864062014805 then (if g.length < 140737488355328 then (impl_RegeneratePiece.l0 k (lost : Int) l (M ++ [t192]) (g ++ [(l[i]).f1]) l (l.length : Int) (wrap64 ((i : Int)+1)) (m : Int) ((a+1 : Nat) : Int)) else (none)) else (none))) (if hlpOk l m (lost : Int)=true then regTail a lost l else (0,[],false)):=by
     intro hr
     rw [hj]
     refine ev_bind hrow (ev_pos (by omega) (ev_pos (by omega) ?_))
     rw [inc (by omega)]
     refine ih _ _ ?_ ?_ (fun t ht=>by by_cases e : t=i;exact e ▸ ⟨hr,by rw [hx];exact c2⟩;exact hall t (by omega))
     ·rw [List.take_succ_eq_append_getElem (by rw [hlpB_length];exact hil),← hgi];simp [hlpB]
     ·rw [List.take_succ_eq_append_getElem (by rw [regM_length];exact hil),← hM];simp [regM,hj]
    by_cases hz : i=0
    ·subst hz
     exact ev_neg (by omega) (hgo (riseAt_yes (by rw [hx];exact c) (.inl rfl)))
    ·have hp : i - 1 < l.length:=by omega
     refine ev_pos (by omega) ?_
     rw [show wrap64 ((i : Int) - 1)=((i - 1 : Nat) : Int) by unfold wrap64;omega,rdHp hp]
     refine ev_pos (by omega) (ev_pos (by omega) ?_)
     have hxp:=hlpN_rd hp
     by_cases c3 : (l[i - 1]).f0 < (l[i]).f0
     ·exact ev_neg (by omega) (hgo (riseAt_yes (by rw [hx];exact c) (.inr (by rw [hx,hxp];exact c3))))
     ·refine ev_pos (by omega) (ev_now ?_)
      rw [hlpOk_no hil (.inl (riseAt_no (fun y=>by rcases y.2 with w | w;exact hz w;rw [hx,hxp] at w;exact c3 w))),if_neg (by simp)]
  ·refine ev_neg (fun y=>c y.2) (ev_now ?_)
   rw [hlpOk_no hil (.inl (riseAt_no (fun y=>c (by rw [← hx];exact y.1)))),if_neg (by simp)]
theorem impl_RegeneratePiece.ev (n k lost : Int) (l : List (S147)) (hll : l.length≤1048576) (hb : Bytes (hlpB l)) : Ev (fun q=>impl_RegeneratePiece.f q n k lost l) (regVal n k lost l):=by
 unfold impl_RegeneratePiece.f regVal
 simp only [impl_Msr_isNode.ev,Option.bind_some,decide_eq_true_eq]
 by_cases h : GoodMsr n k∧0≤lost∧lost≤n - 1
 ·refine ev_pos h ?_
  rw [impl_Msr_alpha.ev h.1]
  simp only [Option.bind_some]
  obtain ⟨h1,h2⟩:=h
  rw [show wrap64 (2*(k - 1))=2*(k - 1) by unfold wrap64;omega]
  refine Ev.step (fun k=>impl_RegeneratePiece.j0.eq_2 _ _ _ _ _ k) ?_
  obtain ⟨a,m,rfl,rfl,h3⟩:=GoodMsr_nat h1
  obtain ⟨t,rfl⟩:=Int.eq_ofNat_of_zero_le h2.1
  have e1 : (((a+1 : Nat) : Int) - 1)=(a : Int):=by omega
  rw [e1,Int.toNat_natCast,Int.toNat_natCast,Int.toNat_natCast]
  by_cases h4 : l.length=2*a
  ·refine ev_neg (by simp only [bne_iff_ne];omega) ?_
   refine ev_eq (impl_RegeneratePiece.ev_l0 a m t h1 (by omega) l h4 hb l.length 0 [] [] (by omega) rfl rfl (fun j hj=>by omega)) ?_
   by_cases h5 : hlpOk l m (t : Int)=true
   ·rw [if_pos h5,if_pos ⟨⟨h1,h2⟩,by omega,h5⟩]
   ·rw [if_neg h5,if_neg (fun y=>h5 y.2.2)]
  ·rw [if_neg (fun y=>h4 (by have:=y.2.1;omega))]
   exact ev_pos (by simp only [bne_iff_ne];omega) (ev_now rfl)
 ·rw [if_neg (fun y=>h y.1)]
  refine ev_neg h ?_
  refine Ev.step (fun k=>impl_RegeneratePiece.j0.eq_2 _ _ _ _ _ k) ?_
  exact ev_pos rfl (ev_now rfl)

theorem laws_eqByteS.ev_l0 (l : List Int) (hl : l.length < 4611686018427387904) : ∀ (n i : Nat),i+n=l.length→Ev (fun k=>laws_eqByteS.l0 k l l (i : Int)) true
 | 0,i,hi=>by
  refine Ev.step (fun k=>laws_eqByteS.l0.eq_2 _ _ _ k) ?_
  exact ev_neg (by omega) (ev_now rfl)
 | n+1,i,hi=>by
  refine Ev.step (fun k=>laws_eqByteS.l0.eq_2 _ _ _ k) ?_
  refine ev_pos (by omega) (ev_pos (by omega) (ev_pos (by omega) (ev_pos rfl ?_)))
  rw [inc (by omega)]
  exact laws_eqByteS.ev_l0 l hl n (i+1) (by omega)
theorem laws_eqByteS.ev (l : List Int) (hl : l.length≤281474976710656) : Ev (fun k=>laws_eqByteS.f k l l) true:=by
 unfold laws_eqByteS.f
 exact ev_pos rfl (laws_eqByteS.ev_l0 l (by omega) l.length 0 (by omega))

theorem laws_eqPiece.ev (x : Int) (l : List Int) (hl : l.length≤281474976710656) : Ev (fun k=>laws_eqPiece.f k x l x l) true:=by
 unfold laws_eqPiece.f
 exact ev_pos rfl (ev_bind (laws_eqByteS.ev l hl) (ev_pos rfl (ev_now rfl)))

theorem laws_eqHelp.ev (a b : Int) : laws_eqHelp.f a b a b=some true:=by
 unfold laws_eqHelp.f
 simp

theorem laws_eqHelpS.ev_l0 (l : List (S147)) (hl : l.length < 4611686018427387904) : ∀ (n i : Nat),i+n=l.length→Ev (fun k=>laws_eqHelpS.l0 k l l (i : Int)) true
 | 0,i,hi=>by
  refine Ev.step (fun k=>laws_eqHelpS.l0.eq_2 _ _ _ k) ?_
  exact ev_neg (by omega) (ev_now rfl)
 | n+1,i,hi=>by
  refine Ev.step (fun k=>laws_eqHelpS.l0.eq_2 _ _ _ k) ?_
  simp only [laws_eqHelp.ev,Option.bind_some]
  refine ev_pos (by omega) (ev_pos (by omega) (ev_pos (by omega) (ev_pos (by trivial) ?_)))
  rw [inc (by omega)]
  exact laws_eqHelpS.ev_l0 l hl n (i+1) (by omega)
theorem laws_eqHelpS.ev (l : List (S147)) (hl : l.length≤281474976710656) : Ev (fun k=>laws_eqHelpS.f k l l) true:=by
 unfold laws_eqHelpS.f
 exact ev_pos rfl (laws_eqHelpS.ev_l0 l (by omega) l.length 0 (by omega))

def markHp (a : Int) (n : Nat) : List (S147):=(List.range n).map fun i=>⟨a+2*(i : Nat),(a+2*(i : Nat)+1) % 256⟩
theorem markHp_length (a : Int) (n : Nat) : (markHp a n).length=n:=by simp [markHp]
theorem rd_hp (l : List (S147)) (i : Nat) (h : i < l.length) : rd_T147 l (i : Int)=l[i]:=by unfold rd_T147;simp [List.getD,h]
theorem laws_markHelpS.ev_l0 (a : Int) (m : Nat) (ha : 0≤a) (hm : a+2*m < 4611686018427387904) : ∀ (n i : Nat) (o : List (S147)),i+n=m→o.length=m→o.take i=(markHp a m).take i →
  Ev (fun k=>laws_markHelpS.l0 k o (a+2*(i : Nat)) (i : Int)) (a+2*(m : Nat),markHp a m)
 | 0,i,o,hi,ho,ht=>by
  refine Ev.step (fun k=>laws_markHelpS.l0.eq_2 _ _ _ k) ?_
  refine ev_neg (by omega) (ev_now ?_)
  have hb:=markHp_length a m
  rw [List.take_of_length_le (by omega),List.take_of_length_le (by omega)] at ht
  subst ht
  have : i=m:=by omega
  rw [this]
 | n+1,i,o,hi,ho,ht=>by
  refine Ev.step (fun k=>laws_markHelpS.l0.eq_2 _ _ _ k) ?_
  refine ev_pos (by omega) (ev_pos (by omega) ?_)
  simp only [Option.bind_some]
  have e : wrap64 (a+2*(i : Nat)+1)=a+2*(i : Nat)+1:=by unfold wrap64;omega
  have e2 : wrap64 (a+2*(i : Nat)+1+1)=a+2*((i+1 : Nat) : Int):=by unfold wrap64;omega
  rw [e,e2,inc (by omega),Int.toNat_natCast]
  refine laws_markHelpS.ev_l0 a m ha hm n (i+1) _ (by omega) (by simpa using ho) ?_
  have hb:=markHp_length a m
  rw [List.take_succ_eq_append_getElem (by simp;omega),List.take_succ_eq_append_getElem (by omega),← ht]
  simp [markHp,rd_T147,List.take_set_of_le,List.getD,show i < o.length by omega]
theorem laws_markHelpS.ev (l : List (S147)) (a : Int) (ha : 0≤a) (hm : a+2*l.length < 4611686018427387904) : Ev (fun k=>laws_markHelpS.f k l a) (a+2*(l.length : Nat),markHp a l.length):=by
 unfold laws_markHelpS.f
 have:=laws_markHelpS.ev_l0 a l.length ha hm l.length 0 l (by omega) rfl rfl
 simpa using this

theorem laws_markByteS.ev_l0 (a : Int) (m : Nat) (ha : 0≤a) (hm : a+m < 4611686018427387904) : ∀ (n i : Nat) (o : List Int),i+n=m→o.length=m→o.take i=(markB a m).take i →
  Ev (fun k=>laws_markByteS.l0 k o (a+(i : Nat)) (i : Int)) (a+(m : Nat),markB a m)
 | 0,i,o,hi,ho,ht=>by
  refine Ev.step (fun k=>laws_markByteS.l0.eq_2 _ _ _ k) ?_
  refine ev_neg (by omega) (ev_now ?_)
  have hb:=markB_length a m
  rw [List.take_of_length_le (by omega),List.take_of_length_le (by omega)] at ht
  subst ht
  have : i=m:=by omega
  rw [this]
 | n+1,i,o,hi,ho,ht=>by
  refine Ev.step (fun k=>laws_markByteS.l0.eq_2 _ _ _ k) ?_
  refine ev_pos (by omega) (ev_pos (by omega) ?_)
  have e : wrap64 (a+(i : Nat)+1)=a+((i+1 : Nat) : Int):=by unfold wrap64;omega
  rw [inc (by omega),e,Int.toNat_natCast]
  refine laws_markByteS.ev_l0 a m ha hm n (i+1) _ (by omega) (by simpa using ho) ?_
  have hb:=markB_length a m
  rw [take_set_succ _ _ _ (by omega),ht,List.take_succ_eq_append_getElem (by omega),markB_get]
theorem laws_markByteS.ev (l : List Int) (a : Int) (ha : 0≤a) (hm : a+l.length < 4611686018427387904) : Ev (fun k=>laws_markByteS.f k l a) (a+(l.length : Nat),markB a l.length):=by
 unfold laws_markByteS.f
 have:=laws_markByteS.ev_l0 a l.length ha hm l.length 0 l (by omega) rfl rfl
 simpa using this

theorem laws_markPiece.ev (x : Int) (l : List Int) (a : Int) (ha : 0≤a) (hm : a+l.length < 4611686018427387904) : Ev (fun k=>laws_markPiece.f k x l a) (a+(l.length : Nat),markB a l.length):=by
 unfold laws_markPiece.f
 exact ev_bind (laws_markByteS.ev l a ha hm) (ev_now rfl)

theorem laws_heldByteS.ev_l0 (a : Int) (m : Nat) (ha : 0≤a) (hm : a+m < 4611686018427387904) : ∀ (n i : Nat),i+n=m →
  Ev (fun k=>laws_heldByteS.l0 k (markB a m) (a+(i : Nat)) (i : Int)) (a+(m : Nat))
 | 0,i,hi=>by
  have hb:=markB_length a m
  refine Ev.step (fun k=>laws_heldByteS.l0.eq_2 _ _ _ k) ?_
  refine ev_neg (by omega) (ev_now ?_)
  have : i=m:=by omega
  rw [this]
 | n+1,i,hi=>by
  have hb:=markB_length a m
  refine Ev.step (fun k=>laws_heldByteS.l0.eq_2 _ _ _ k) ?_
  refine ev_pos (by omega) (ev_pos (by omega) (ev_pos (by rw [rd_get (by omega),markB_get]) ?_))
  have e : wrap64 (a+(i : Nat)+1)=a+((i+1 : Nat) : Int):=by unfold wrap64;omega
  rw [inc (by omega),e]
  exact laws_heldByteS.ev_l0 a m ha hm n (i+1) (by omega)
theorem laws_heldByteS.ev (a : Int) (m : Nat) (ha : 0≤a) (hm : a+m < 4611686018427387904) : Ev (fun k=>laws_heldByteS.f k (markB a m) a) (a+(m : Nat)):=by
 unfold laws_heldByteS.f
 have:=laws_heldByteS.ev_l0 a m ha hm m 0 (by omega)
 simpa using this

theorem laws_heldPiece.ev (x : Int) (l : List Int) (a : Int) (ha : 0≤a) (hm : a+l.length < 4611686018427387904) : Ev (fun k=>laws_heldPiece.f k x (markB a l.length) a) (a+(l.length : Nat)):=by
 unfold laws_heldPiece.f
 exact ev_bind (laws_heldByteS.ev a l.length ha hm) (ev_neg (by omega) (ev_now rfl))

theorem FnExactRegeneratePiece : ∀ (n k x : Int) (l : List (S153)),((Lit.int .i64 n).wf=true∧(Lit.int .i64 k).wf=true)→(Lit.int .i64 x).wf=true→(l.length≤maxLen∧∀ x ∈ l,((Lit.int .i64 x.f0).wf=true∧(Lit.int .u8 x.f1).wf=true))→∃ q,laws_FnExactRegeneratePiece.f q n k x l=some true:=by
 intro n k x l _ _ hl
 have hb : Bytes (hlpB (l.map toHp)):=by
  refine Bytes.of_wf (fun z hz=>?_)
  obtain ⟨y,hy,rfl⟩:=List.mem_map.1 hz
  obtain ⟨y',hy',rfl⟩:=List.mem_map.1 hy
  exact (hl.2 y' hy').2
 have hw : ∀ z ∈ l.map toHp,(Lit.int .i64 z.f0).wf=true:=by
  intro z hz
  obtain ⟨y',hy',rfl⟩:=List.mem_map.1 hz
  exact (hl.2 y' hy').1
 have hm : (l.map toHp).length=l.length:=List.length_map ..
 refine Ev.rounds ?_
 unfold laws_FnExactRegeneratePiece.f
 simp only [laws_szHelpS.ev l hl.1,laws_toMsr.ev,Option.bind_some]
 by_cases h : l.length≤1048576
 ·rw [if_pos h]
  refine ev_neg (by omega) ?_
  have ht:=laws_toHelpS.ev l h
  have hs:=spec_RegeneratePiece.ev n k x (l.map toHp) (by omega) hb hw
  have hi:=impl_RegeneratePiece.ev n k x (l.map toHp) (by omega) hb
  have o:=regVal_ok n k x (l.map toHp)
  have hy : (l.map toHp).length≤1048576:=by omega
  generalize regVal n k x (l.map toHp)=rb at hs hi o
  generalize l.map toHp=y at ht hs hi hy
  obtain ⟨r,v,b⟩:=rb
  have hv : v.length≤16:=o
  clear hb hw hm o
  refine ev_bind ht (ev_bind hs (ev_bind ht (ev_bind hi ?_)))
  dsimp only
  refine ev_bind (laws_eqPiece.ev r v (by omega)) (ev_pos rfl ?_)
  refine Ev.step (fun k=>laws_FnExactRegeneratePiece.j0.eq_2 _ _ _ _ _ _ _ _ _ _ _ _ k) ?_
  refine ev_neg (by simp) (ev_bind ht (ev_bind (laws_eqHelpS.ev _ (by omega)) (ev_pos rfl ?_)))
  refine ev_bind (laws_markHelpS.ev _ 1 (by omega) (by omega)) (ev_neg (by dsimp only;omega) (ev_bind (laws_eqPiece.ev r v (by omega)) (ev_pos rfl ?_)))
  refine Ev.step (fun k=>laws_FnExactRegeneratePiece.j1.eq_2 _ _ _ _ _ _ _ _ _ _ k) ?_
  refine ev_neg (by simp) (ev_bind (laws_markPiece.ev _ _ 1 (by omega) (by omega)) (ev_bind (laws_heldPiece.ev _ v 1 (by omega) (by omega)) (ev_neg (by omega) (ev_pos rfl ?_))))
  simp only [laws_toMsr.ev,Option.bind_some]
  refine ev_bind ht (ev_bind hi ?_)
  dsimp only
  refine ev_bind (laws_eqPiece.ev r v (by omega)) (ev_pos rfl ?_)
  refine Ev.step (fun k=>laws_FnExactRegeneratePiece.j2.eq_2 _ _ _ _ k) ?_
  exact ev_neg (by simp) (ev_bind (laws_heldPiece.ev _ v 1 (by omega) (by omega)) (ev_neg (by omega) (ev_pos rfl (ev_now rfl))))
 ·rw [if_neg h]
  exact ev_pos (by omega) (ev_now rfl)

end Go.Proofs.Ytajikfnpcobnpaa.Pure
-- HALVED
-- SQUEEZED
