/- The given program's DecodeMsr returns what the reference's DecodeMsr returns, for all codes and pieces, leaves the pieces as they were, and what it returns is its own; there is no condition. -/
import Derived.Test.YtajikfnpcobnpaaPFnExactDecodeMsrx
import Derived.Test.YtajikfnpcobnpaaWalkFnExactDecodeMsr
import Derived.Test.YtajikfnpcobnpaaVDecodeMsrKit
import Derived.Test.YtajikfnpcobnpaaVDecodeMsrTxt
namespace Go.Proofs.Ytajikfnpcobnpaa.Pure
open Go.RowKit Go.Proofs.Ytajikfnpcobnpaa.PFnExactDecodeMsr Go.Proofs.YtajikfnpcobnpaaW.PrintWords Go.Proofs.YtajikfnpcobnpaaW.PrintLast Go.Proofs.Ytajikfnpcobnpaa.Gf Go.Proofs.Ytajikfnpcobnpaa.Kit Go.Proofs.Ytajikfnpcobnpaa.KitW
open Go.Proofs.Ytajikfnpcobnpaa.KitN hiding idM_length
set_option linter.unusedVariables false
set_option linter.unusedSimpArgs false

theorem rdSS (l : List (List Int)) (i : Nat) (h : i < l.length) : rd_L2 l (i : Int)=l[i]:=by unfold rd_L2;simp [List.getD,h]
theorem rdSS0 (l : List (List Int)) (i : Int) : rd_L2 l i=l.getD i.toNat []:=rfl
theorem impl_Times.ev_l0 (b : Nat) (hb : b < 256) : ∀ (n i o x : Nat),i+n=8→o < 256→x < 256 →
  Ev (fun k=>impl_Times.l0 k (b : Int) (o : Int) (i : Int) (x : Int)) ((T n o x (b / 2 ^ i) : Nat) : Int)
 | 0,i,o,x,hi,ho,hx=>by
  refine Ev.step (fun k=>impl_Times.l0.eq_2 _ _ _ _ k) ?_
  refine ev_neg (by omega) (ev_now ?_)
  simp only [T]
  omega
 | n+1,i,o,x,hi,ho,hx=>by
  refine Ev.step (fun k=>impl_Times.l0.eq_2 _ _ _ _ k) ?_
  refine ev_pos (by omega) (ev_pos (by omega) ?_)
  have e1 : shr .u8 (b : Int) (i : Int)=((b / 2 ^ i : Nat) : Int):=by
   unfold shr
   rw [Nat.min_eq_left (by simp only [IntKind.bits];omega)]
   simp
  have hd : b / 2 ^ i < 256:=Nat.lt_of_le_of_lt (Nat.div_le_self _ _) hb
  have e2 : wrap64 ((x : Int)*2)=((2*x : Nat) : Int):=by rw [wrap_id (by omega) (by omega)];omega
  have e3 : wrap64 ((i : Int)+1)=((i+1 : Nat) : Int):=by rw [wrap_id (by omega) (by omega)];omega
  rw [e1,and1_u8 hd,e2,e3]
  have e4 : Go.bits .xor .i64 (o : Int) (x : Int)=((o ^^^ x : Nat) : Int):=xor_i64 (by omega) (by omega)
  have e5 : Go.bits .xor .i64 ((2*x : Nat) : Int) 283=((2*x ^^^ 283 : Nat) : Int):=xor_i64 (m:=2*x) (n:=283) (by omega) (by omega)
  have e6 : b / 2 ^ i / 2=b / 2 ^ (i+1):=by rw [Nat.div_div_eq_div_mul,Nat.pow_succ]
  rw [e4,e5]
  have hT : T (n+1) o x (b / 2 ^ i)=T n (if b / 2 ^ i % 2=1 then o ^^^ x else o) (xt x) (b / 2 ^ (i+1)):=by rw [T,e6]
  rw [hT]
  have hxt:=xt_lt hx
  have hox:=xor_lt ho hx
  by_cases h1 : b / 2 ^ i % 2=1
  ·rw [if_pos h1]
   refine ev_pos (by omega) ?_
   by_cases h2 : 2*x > 255
   ·refine ev_pos (by omega) ?_
    have : xt x=2*x ^^^ 283:=by unfold xt;rw [if_pos h2]
    rw [this] at hxt ⊢
    exact impl_Times.ev_l0 b hb n (i+1) _ _ (by omega) hox hxt
   ·refine ev_neg (by omega) ?_
    have : xt x=2*x:=by unfold xt;rw [if_neg h2]
    rw [this] at hxt ⊢
    exact impl_Times.ev_l0 b hb n (i+1) _ _ (by omega) hox hxt
  ·rw [if_neg h1]
   refine ev_neg (by omega) ?_
   by_cases h2 : 2*x > 255
   ·refine ev_pos (by omega) ?_
    have : xt x=2*x ^^^ 283:=by unfold xt;rw [if_pos h2]
    rw [this] at hxt ⊢
    exact impl_Times.ev_l0 b hb n (i+1) _ _ (by omega) ho hxt
   ·refine ev_neg (by omega) ?_
    have : xt x=2*x:=by unfold xt;rw [if_neg h2]
    rw [this] at hxt ⊢
    exact impl_Times.ev_l0 b hb n (i+1) _ _ (by omega) ho hxt
theorem impl_Times.ev {a b : Int} (ha : Byte a) (hb : Byte b) : Ev (fun k=>impl_Times.f k a b) (mul a b):=by
 obtain ⟨m,hm,rfl⟩:=ha.nat
 obtain ⟨n,hn,rfl⟩:=hb.nat
 unfold impl_Times.f
 rw [wrap_id (by omega) (by omega)]
 have h:=impl_Times.ev_l0 n hn 8 0 0 m rfl (by decide) hm
 exact ev_eq h (by unfold Gf.mul gm;simp)

theorem impl_power.ev_l0 : ∀ (N n : Nat) (a o : Int),n≤N→n < 4294967296→Byte a→Byte o→Ev (fun k=>impl_power.l0 k a (n : Int) o) (mul o (pow a n)):=by
 intro N
 induction N with
 | zero =>
  intro n a o hN hn ha ho
  obtain rfl : n=0:=by omega
  refine Ev.step (fun k=>impl_power.l0.eq_2 _ _ _ k) ?_
  exact ev_neg (by omega) (ev_now (by rw [pow_zero,mul_one ho]))
 | succ N ih =>
  intro n a o hN hn ha ho
  refine Ev.step (fun k=>impl_power.l0.eq_2 _ _ _ k) ?_
  by_cases h0 : n=0
  ·subst h0
   exact ev_neg (by omega) (ev_now (by rw [pow_zero,mul_one ho]))
  refine ev_pos (by omega) ?_
  have e : ((n : Int) / 2)=((n / 2 : Nat) : Int):=by omega
  have haa:=Byte.mul ha a
  have hsq : pow (mul a a) (n / 2)=pow a (2*(n / 2)):=by rw [pow_mul ha,pow_two ha]
  rw [and1_i64 hn,e]
  by_cases h1 : n % 2=1
  ·refine ev_pos (by omega) ?_
   refine ev_bind (impl_Times.ev ho ha) (ev_bind (impl_Times.ev ha ha) ?_)
   refine ev_eq (ih (n / 2) _ _ (by omega) (by omega) haa (Byte.mul ho a)) ?_
   have hn2 : n=1+2*(n / 2):=by omega
   rw [hsq,mul_assoc ho ha (Byte.pow ha _)]
   conv=>rhs;rw [hn2,pow_add ha,pow_one ha]
  ·refine ev_neg (by omega) ?_
   refine ev_bind (impl_Times.ev ha ha) ?_
   refine ev_eq (ih (n / 2) _ _ (by omega) (by omega) haa ho) ?_
   have hn2 : n=2*(n / 2):=by omega
   rw [hsq,← hn2]
theorem impl_power.ev {a : Int} (ha : Byte a) (n : Nat) (hn : n < 4294967296) : Ev (fun k=>impl_power.f k a (n : Int)) (pow a n):=by
 unfold impl_power.f
 refine ev_eq (impl_power.ev_l0 n n a 1 (Nat.le_refl _) hn ha .one) ?_
 exact one_mul (Byte.pow ha n)

theorem laws_eqByteS.ev_l0 (l : List Int) (hl : l.length < 4611686018427387904) : ∀ (n i : Nat),i+n=l.length→Ev (fun k=>laws_eqByteS.l0 k l l (i : Int)) true
 | 0,i,hi=>by
  refine Ev.step (fun k=>laws_eqByteS.l0.eq_2 _ _ _ k) ?_
  exact ev_neg (by omega) (ev_now rfl)
 | n+1,i,hi=>by
  refine Ev.step (fun k=>laws_eqByteS.l0.eq_2 _ _ _ k) ?_
  refine ev_pos (by omega) (ev_pos (by omega) (ev_pos (by omega) (ev_pos rfl ?_)))
  rw [inc (by omega)]
  exact laws_eqByteS.ev_l0 l hl n (i+1) (by omega)
theorem laws_eqByteS.ev (l : List Int) (hl : l.length≤281474976710656) : Ev (fun k=>laws_eqByteS.f k l l) true:=by
 unfold laws_eqByteS.f
 exact ev_pos rfl (laws_eqByteS.ev_l0 l (by omega) l.length 0 (by omega))

theorem laws_markByteS.ev_l0 (a : Int) (m : Nat) (ha : 0≤a) (hm : a+m < 4611686018427387904) : ∀ (n i : Nat) (o : List Int),i+n=m→o.length=m→o.take i=(markB a m).take i →
  Ev (fun k=>laws_markByteS.l0 k o (a+(i : Nat)) (i : Int)) (a+(m : Nat),markB a m)
 | 0,i,o,hi,ho,ht=>by
  refine Ev.step (fun k=>laws_markByteS.l0.eq_2 _ _ _ k) ?_
  refine ev_neg (by omega) (ev_now ?_)
  have hb:=markB_length a m
  rw [List.take_of_length_le (by omega),List.take_of_length_le (by omega)] at ht
  subst ht
  have : i=m:=by omega
  rw [this]
 | n+1,i,o,hi,ho,ht=>by
  refine Ev.step (fun k=>laws_markByteS.l0.eq_2 _ _ _ k) ?_
  refine ev_pos (by omega) (ev_pos (by omega) ?_)
  have e : wrap64 (a+(i : Nat)+1)=a+((i+1 : Nat) : Int):=by unfold wrap64;omega
  rw [inc (by omega),e,Int.toNat_natCast]
  refine laws_markByteS.ev_l0 a m ha hm n (i+1) _ (by omega) (by simpa using ho) ?_
  have hb:=markB_length a m
  rw [take_set_succ _ _ _ (by omega),ht,List.take_succ_eq_append_getElem (by omega),markB_get]
theorem laws_markByteS.ev (l : List Int) (a : Int) (ha : 0≤a) (hm : a+l.length < 4611686018427387904) : Ev (fun k=>laws_markByteS.f k l a) (a+(l.length : Nat),markB a l.length):=by
 unfold laws_markByteS.f
 have:=laws_markByteS.ev_l0 a l.length ha hm l.length 0 l (by omega) rfl rfl
 simpa using this

theorem laws_heldByteS.ev_l0 (a : Int) (m : Nat) (ha : 0≤a) (hm : a+m < 4611686018427387904) : ∀ (n i : Nat),i+n=m →
  Ev (fun k=>laws_heldByteS.l0 k (markB a m) (a+(i : Nat)) (i : Int)) (a+(m : Nat))
 | 0,i,hi=>by
  have hb:=markB_length a m
  refine Ev.step (fun k=>laws_heldByteS.l0.eq_2 _ _ _ k) ?_
  refine ev_neg (by omega) (ev_now ?_)
  have : i=m:=by omega
  rw [this]
 | n+1,i,hi=>by
  have hb:=markB_length a m
  refine Ev.step (fun k=>laws_heldByteS.l0.eq_2 _ _ _ k) ?_
  refine ev_pos (by omega) (ev_pos (by omega) (ev_pos (by rw [rd_get (by omega),markB_get]) ?_))
  have e : wrap64 (a+(i : Nat)+1)=a+((i+1 : Nat) : Int):=by unfold wrap64;omega
  rw [inc (by omega),e]
  exact laws_heldByteS.ev_l0 a m ha hm n (i+1) (by omega)
theorem laws_heldByteS.ev (a : Int) (m : Nat) (ha : 0≤a) (hm : a+m < 4611686018427387904) : Ev (fun k=>laws_heldByteS.f k (markB a m) a) (a+(m : Nat)):=by
 unfold laws_heldByteS.f
 have:=laws_heldByteS.ev_l0 a m ha hm m 0 (by omega)
 simpa using this

theorem laws_toMsr.ev (n k : Int) : laws_toMsr.f n k=some (n,k):=rfl

theorem laws_szByteS.ev (l : List Int) (a : Int) (hl : l.length≤maxLen) (h1 : 0≤a) (h2 : a≤1048576) : laws_szByteS.f l a=some (if (l.length : Int)≤a then a - (l.length : Int) else -1):=by
 unfold laws_szByteS.f
 unfold maxLen at hl
 have e : wrap64 (a - (l.length : Int))=a - (l.length : Int):=by unfold wrap64;omega
 rw [e]
 by_cases h : (l.length : Int)≤a
 ·rw [if_neg (by omega),if_pos h]
 ·rw [if_pos (by omega),if_neg h]

theorem laws_szPiece.ev (x : Int) (l : List Int) (a : Int) (hl : l.length≤maxLen) (h1 : 0≤a) (h2 : a≤1048576) : laws_szPiece.f x l a=some (if (l.length : Int)≤a then a - (l.length : Int) else -1):=by
 unfold laws_szPiece.f
 simp only [laws_szByteS.ev l a hl h1 h2,Option.bind_some]
 by_cases h : (l.length : Int)≤a
 ·rw [if_pos h,if_neg (by omega)]
 ·rw [if_neg h,if_pos (by omega)]

def totPc : List (S169)→Nat
 | []=>0
 | x :: l=>x.f1.length+totPc l
theorem mem_totPc {l : List (S169)} {x : S169} (h : x ∈ l) : x.f1.length≤totPc l:=by
 induction l with
 | nil=>simp at h
 | cons y l ih =>
  rcases List.mem_cons.1 h with rfl | h
  ·simp [totPc]
  ·have:=ih h;simp only [totPc];omega
theorem laws_szPieceS.ev_l0 (l : List (S169)) (hl : l.length < 4611686018427387904) (hs : ∀ x ∈ l,x.f1.length≤maxLen) : ∀ (n i : Nat) (a : Int),i+n=l.length→0≤a→a≤1048576 →
  Ev (fun k=>laws_szPieceS.l0 k l a (i : Int)) (if (totPc (l.drop i) : Int)≤a then a - (totPc (l.drop i) : Int) else -1)
 | 0,i,a,hi,ha,_=>by
  refine Ev.step (fun k=>laws_szPieceS.l0.eq_2 _ _ _ k) ?_
  refine ev_neg (by omega) (ev_now ?_)
  rw [List.drop_eq_nil_of_le (by omega)]
  show a=if ((0 : Nat) : Int)≤a then a - ((0 : Nat) : Int) else -1
  rw [if_pos (by omega)];omega
 | n+1,i,a,hi,ha,hb=>by
  have hd:=List.drop_eq_getElem_cons (show i < l.length by omega)
  have ht : totPc (l.drop i)=(l[i]'(by omega)).f1.length+totPc (l.drop (i+1)):=by rw [hd];rfl
  have e : rd_T169 l (i : Int)=l[i]'(by omega):=by unfold rd_T169;simp [List.getD,show i < l.length by omega]
  refine Ev.step (fun k=>laws_szPieceS.l0.eq_2 _ _ _ k) ?_
  refine ev_pos (by omega) (ev_pos (by omega) ?_)
  rw [e,laws_szPiece.ev _ _ a (hs _ (List.getElem_mem _)) ha hb]
  simp only [Option.bind_some]
  rw [ht]
  by_cases h : ((l[i]'(by omega)).f1.length : Int)≤a
  ·rw [if_pos h]
   refine ev_neg (by omega) ?_
   rw [inc (by omega)]
   refine ev_eq (laws_szPieceS.ev_l0 l hl hs n (i+1) _ (by omega) (by omega) (by omega)) ?_
   by_cases h2 : (totPc (l.drop (i+1)) : Int)≤a - ((l[i]'(by omega)).f1.length : Int)
   ·rw [if_pos h2,if_pos (by omega)];omega
   ·rw [if_neg h2,if_neg (by omega)]
  ·rw [if_neg h]
   refine ev_pos (by decide) (ev_now ?_)
   rw [if_neg (by omega)]
theorem laws_szPieceS.ev (l : List (S169)) (hl : l.length≤maxLen) (hs : ∀ x ∈ l,x.f1.length≤maxLen) : Ev (fun k=>laws_szPieceS.f k l 1048576) (if (l.length : Int)+(totPc l : Int)≤1048576 then 1048576 - (l.length : Int) - (totPc l : Int) else -1):=by
 unfold laws_szPieceS.f
 have hl2:=hl
 unfold maxLen at hl2
 have e : wrap64 (1048576 - (l.length : Int))=1048576 - (l.length : Int):=by unfold wrap64;omega
 rw [e]
 by_cases h : (l.length : Int)≤1048576
 ·refine ev_neg (by omega) ?_
  refine ev_eq (laws_szPieceS.ev_l0 l (by omega) hs l.length 0 _ (by omega) (by omega) (by omega)) ?_
  rw [List.drop_zero]
  by_cases h2 : (totPc l : Int)≤1048576 - (l.length : Int)
  ·rw [if_pos h2,if_pos (by omega)]
  ·rw [if_neg h2,if_neg (by omega)]
 ·refine ev_pos (by omega) (ev_now ?_)
  rw [if_neg (by omega)]

theorem spec_l1Add.ev_l0 (v w : List Int) (hv : Bytes v) (hw : Bytes w) (hl : v.length=w.length) (hs : v.length < 140737488355328) : ∀ (n i : Nat) (o : List Int),i+n=v.length→o=(addV v w).take i →
  Ev (fun k=>spec_l1Add.l0 k v w o (v.length : Int) (i : Int)) (addV v w)
 | 0,i,o,hi,ho=>by
  refine Ev.step (fun k=>spec_l1Add.l0.eq_2 _ _ _ _ _ k) ?_
  refine ev_neg (by omega) (ev_now ?_)
  subst ho
  rw [List.take_of_length_le (by rw [addV_length];omega)]
 | n+1,i,o,hi,ho=>by
  have hz:=addV_length v w
  have hlen : o.length=i:=by rw [ho,List.length_take,hz];omega
  refine Ev.step (fun k=>spec_l1Add.l0.eq_2 _ _ _ _ _ k) ?_
  refine ev_pos (by omega) (ev_pos (by omega) (ev_pos (by omega) (ev_pos (by omega) (ev_pos (by omega) ?_))))
  rw [inc (by omega),xor_u8 (bytes_rd hv (by omega)) (bytes_rd hw (by omega)),rd_get (by omega),rd_get (by omega)]
  refine spec_l1Add.ev_l0 v w hv hw hl hs n (i+1) _ (by omega) ?_
  rw [List.take_succ_eq_append_getElem (by omega),← ho]
  simp [addV]
theorem spec_l1Add.ev {v w : List Int} (hv : Bytes v) (hw : Bytes w) (hl : v.length=w.length) (hs : v.length < 140737488355328) : Ev (fun k=>spec_l1Add.f k v w) (addV v w):=by
 unfold spec_l1Add.f
 exact spec_l1Add.ev_l0 v w hv hw hl hs v.length 0 [] (by omega) rfl

theorem spec_l1Times.ev_l0 : ∀ (n o x y : Nat),y < 2 ^ n→n≤8→o < 256→x < 256 →
  Ev (fun k=>spec_l1Times.l0 k (o : Int) (x : Int) (y : Int)) ((T n o x y : Nat) : Int)
 | 0,o,x,y,hy,_,ho,hx=>by
  refine Ev.step (fun k=>spec_l1Times.l0.eq_2 _ _ _ k) ?_
  have : y=0:=by simpa using hy
  subst this
  refine ev_neg (by decide) (ev_now ?_)
  simp only [T]
  omega
 | n+1,o,x,y,hy,hn,ho,hx=>by
  have hy8 : y < 256:=Nat.lt_of_lt_of_le hy (Nat.pow_le_pow_right (n:=2) (by decide) hn)
  by_cases h0 : y=0
  ·subst h0
   refine Ev.step (fun k=>spec_l1Times.l0.eq_2 _ _ _ k) ?_
   refine ev_neg (by decide) (ev_now ?_)
   rw [T_zero]
   omega
  refine Ev.step (fun k=>spec_l1Times.l0.eq_2 _ _ _ k) ?_
  refine ev_pos (by omega) ?_
  have e2 : wrap64 ((x : Int)*2)=((2*x : Nat) : Int):=by rw [wrap_id (by omega) (by omega)];omega
  have e3 : ((y : Int) / 2)=((y / 2 : Nat) : Int):=by omega
  have e4 : Go.bits .xor .i64 (o : Int) (x : Int)=((o ^^^ x : Nat) : Int):=xor_i64 (by omega) (by omega)
  have e5 : Go.bits .xor .i64 ((2*x : Nat) : Int) 283=((2*x ^^^ 283 : Nat) : Int):=xor_i64 (m:=2*x) (n:=283) (by omega) (by omega)
  rw [and1_i64 (by omega),e2,e3,e4,e5]
  have hT : T (n+1) o x y=T n (if y % 2=1 then o ^^^ x else o) (xt x) (y / 2):=by rw [T]
  rw [hT]
  have hxt:=xt_lt hx
  have hox:=xor_lt ho hx
  have hh : y / 2 < 2 ^ n:=by rw [Nat.pow_succ] at hy;omega
  by_cases h1 : y % 2=1
  ·rw [if_pos h1]
   refine ev_pos (by omega) ?_
   by_cases h2 : 2*x > 255
   ·refine ev_pos (by omega) ?_
    have : xt x=2*x ^^^ 283:=by unfold xt;rw [if_pos h2]
    rw [this] at hxt ⊢
    exact spec_l1Times.ev_l0 n _ _ _ hh (by omega) hox hxt
   ·refine ev_neg (by omega) ?_
    have : xt x=2*x:=by unfold xt;rw [if_neg h2]
    rw [this] at hxt ⊢
    exact spec_l1Times.ev_l0 n _ _ _ hh (by omega) hox hxt
  ·rw [if_neg h1]
   refine ev_neg (by omega) ?_
   by_cases h2 : 2*x > 255
   ·refine ev_pos (by omega) ?_
    have : xt x=2*x ^^^ 283:=by unfold xt;rw [if_pos h2]
    rw [this] at hxt ⊢
    exact spec_l1Times.ev_l0 n _ _ _ hh (by omega) ho hxt
   ·refine ev_neg (by omega) ?_
    have : xt x=2*x:=by unfold xt;rw [if_neg h2]
    rw [this] at hxt ⊢
    exact spec_l1Times.ev_l0 n _ _ _ hh (by omega) ho hxt
theorem spec_l1Times.ev {a b : Int} (ha : Byte a) (hb : Byte b) : Ev (fun k=>spec_l1Times.f k a b) (mul a b):=by
 obtain ⟨m,hm,rfl⟩:=ha.nat
 obtain ⟨n,hn,rfl⟩:=hb.nat
 unfold spec_l1Times.f
 rw [wrap_id (i:=(m : Int)) (by omega) (by omega),wrap_id (i:=(n : Int)) (by omega) (by omega)]
 have h:=spec_l1Times.ev_l0 8 0 m n hn (Nat.le_refl _) (by decide) hm
 exact ev_eq h (by unfold Gf.mul gm;simp)

theorem spec_l1Scale.ev_l0 (a : Int) (ha : Byte a) (v : List Int) (hv : Bytes v) (hs : v.length < 140737488355328) : ∀ (n i : Nat) (o : List Int),i+n=v.length→o=(scale a v).take i →
  Ev (fun k=>spec_l1Scale.l0 k a o v (v.length : Int) (i : Int)) (scale a v)
 | 0,i,o,hi,ho=>by
  refine Ev.step (fun k=>spec_l1Scale.l0.eq_2 _ _ _ _ _ k) ?_
  refine ev_neg (by omega) (ev_now ?_)
  subst ho
  rw [List.take_of_length_le (by rw [scale_length];omega)]
 | n+1,i,o,hi,ho=>by
  have hz:=scale_length a v
  have hlen : o.length=i:=by rw [ho,List.length_take,hz];omega
  refine Ev.step (fun k=>spec_l1Scale.l0.eq_2 _ _ _ _ _ k) ?_
  refine ev_pos (by omega) (ev_pos (by omega) (ev_pos (by omega) ?_))
  refine ev_bind (spec_l1Times.ev ha (bytes_rd hv (by omega))) ?_
  refine ev_pos (by omega) ?_
  rw [inc (by omega),rd_get (by omega)]
  refine spec_l1Scale.ev_l0 a ha v hv hs n (i+1) _ (by omega) ?_
  rw [List.take_succ_eq_append_getElem (by omega),← ho]
  simp [scale]
theorem spec_l1Scale.ev {a : Int} (ha : Byte a) {v : List Int} (hv : Bytes v) (hs : v.length < 140737488355328) : Ev (fun k=>spec_l1Scale.f k a v) (scale a v):=by
 unfold spec_l1Scale.f
 exact spec_l1Scale.ev_l0 a ha v hv hs v.length 0 [] (by omega) rfl

theorem spec_l2Own.ev_l0 (l : List (List Int)) (hl : l.length≤1048576) (hr : ∀ r ∈ l,r.length≤1048576) : ∀ (d i : Nat) (o : List (List Int)),i+d=l.length→o=l.take i→Ev (fun k=>spec_l2Own.l0 k l (l.length : Int) (i : Int) o) l
 | 0,i,o,hi,ho=>by
  refine Ev.step (fun k=>spec_l2Own.l0.eq_2 _ _ _ _ k) ?_
  refine ev_neg (by omega) (ev_now ?_)
  rw [ho,List.take_of_length_le (by omega)]
 | d+1,i,o,hi,ho=>by
  have hol : o.length=i:=by rw [ho,List.length_take];omega
  have hrl : (l.getD i []).length≤1048576:=by
   rw [List.getD_eq_getElem?_getD,List.getElem?_eq_getElem (show i < l.length by omega)]
   exact hr _ (List.getElem_mem _)
  refine Ev.step (fun k=>spec_l2Own.l0.eq_2 _ _ _ _ k) ?_
  simp only [Option.bind_some]
  refine ev_pos (by omega) (ev_pos (by omega) (ev_pos (by omega) (ev_pos (show ([] : List Int).length+(l.getD i []).length < 140737488355328 by simp only [List.length_nil];omega) (ev_pos (by omega) ?_))))
  rw [inc (by omega)]
  refine spec_l2Own.ev_l0 l hl hr d (i+1) _ (by omega) ?_
  rw [List.take_succ_eq_append_getElem (show i < l.length by omega),← ho,show l[i]'(by omega)=l.getD i [] by rw [List.getD_eq_getElem?_getD,List.getElem?_eq_getElem (show i < l.length by omega)];rfl]
  rfl
theorem spec_l2Own.ev (l : List (List Int)) (hl : l.length≤1048576) (hr : ∀ r ∈ l,r.length≤1048576) : Ev (fun k=>spec_l2Own.f k l) l:=by
 unfold spec_l2Own.f
 exact spec_l2Own.ev_l0 l hl hr l.length 0 [] (by omega) rfl

theorem spec_l1Power.ev_l0 (a : Int) (ha : Byte a) : ∀ (n m : Nat),n < 4611686018427387904→Ev (fun k=>spec_l1Power.l0 k a (n : Int) (pow a m)) (pow a (m+n))
 | 0,m,_=>by
  refine Ev.step (fun k=>spec_l1Power.l0.eq_2 _ _ _ k) ?_
  exact ev_neg (by omega) (ev_now rfl)
 | n+1,m,hn=>by
  refine Ev.step (fun k=>spec_l1Power.l0.eq_2 _ _ _ k) ?_
  refine ev_pos (by omega) ?_
  refine ev_bind (spec_l1Times.ev (Byte.pow ha m) ha) ?_
  have e : wrap64 (((n+1 : Nat) : Int) - 1)=(n : Int):=by unfold wrap64;omega
  rw [e,← pow_succ]
  refine ev_eq (spec_l1Power.ev_l0 a ha n (m+1) (by omega)) ?_
  rw [Nat.add_right_comm,Nat.add_assoc]
theorem spec_l1Power.ev {a : Int} (ha : Byte a) (n : Nat) (hn : n < 4611686018427387904) : Ev (fun k=>spec_l1Power.f k a (n : Int)) (pow a n):=by
 unfold spec_l1Power.f
 have:=spec_l1Power.ev_l0 a ha n 0 hn
 rw [pow_zero,Nat.zero_add] at this
 exact this

theorem spec_l1Inverse.ev {a : Int} (ha : Byte a) : Ev (fun k=>spec_l1Inverse.f k a) (inv a):=by
 unfold spec_l1Inverse.f
 by_cases h : a=0
 ·subst h
  exact ev_pos rfl (ev_now inv_zero.symm)
 ·exact ev_neg h (ev_bind (spec_l1Power.ev ha 254 (by decide)) (ev_now (inv_pow a).symm))

theorem spec_l2Blank.ev_l0 (n m : Nat) (hn : n≤1048576) (hm : m≤1048576) : ∀ (d i : Nat),i+d=n→Ev (fun k=>spec_l2Blank.l0 k (n : Int) (m : Int) (i : Int) (blankM i m)) (blankM n m)
 | 0,i,hi=>by
  obtain rfl : i=n:=by omega
  refine Ev.step (fun k=>spec_l2Blank.l0.eq_2 _ _ _ _ k) ?_
  exact ev_neg (by omega) (ev_now rfl)
 | d+1,i,hi=>by
  have ih:=spec_l2Blank.ev_l0 n m hn hm d (i+1) (by omega)
  refine Ev.step (fun k=>spec_l2Blank.l0.eq_2 _ _ _ _ k) ?_
  refine ev_pos (by omega) (ev_pos (by omega) (ev_pos (by omega) (ev_pos (by simp [blankM];omega) ?_)))
  rw [inc (by omega),Int.toNat_natCast]
  have e : blankM i m ++ [List.replicate m 0]=blankM (i+1) m:=by
   unfold blankM;rw [List.replicate_succ']
  rw [e]
  exact ih
theorem spec_l2Blank.ev (n m : Nat) (hn : n≤1048576) (hm : m≤1048576) : Ev (fun k=>spec_l2Blank.f k (n : Int) (m : Int)) (blankM n m):=by
 unfold spec_l2Blank.f
 exact spec_l2Blank.ev_l0 n m hn hm n 0 (by omega)

def idPart (n i : Nat) : List (List Int):=(List.range n).map fun j=>if j < i then (List.replicate n 0).set j 1 else List.replicate n 0
theorem idPart_length (n i : Nat) : (idPart n i).length=n:=by simp [idPart]
theorem idPart_zero (n : Nat) : idPart n 0=blankM n n:=by
 apply List.ext_getElem
 ·simp [idPart,blankM]
 ·intro j h1 h2;simp [idPart,blankM]
theorem idPart_all (n : Nat) : idPart n n=idM n:=by
 apply List.ext_getElem
 ·simp [idPart,idM]
 ·intro j h1 h2
  have : j < n:=by simpa [idPart] using h1
  simp [idPart,idM,this]
theorem idPart_succ (n i : Nat) (hi : i < n) : (idPart n i).set i ((List.replicate n 0).set i 1)=idPart n (i+1):=by
 apply List.ext_getElem
 ·simp [idPart]
 ·intro j h1 h2
  rw [List.getElem_set]
  by_cases e : i=j
  ·subst e
   simp [idPart]
  ·rw [if_neg e]
   simp only [idPart,List.getElem_map,List.getElem_range]
   by_cases h : j < i
   ·rw [if_pos h,if_pos (by omega)]
   ·rw [if_neg h,if_neg (by omega)]
theorem spec_l2Identity.ev_l0 (n : Nat) (hn : n≤1048576) : ∀ (d i : Nat),i+d=n→Ev (fun k=>spec_l2Identity.l0 k (n : Int) (i : Int) (idPart n i)) (idM n)
 | 0,i,hi=>by
  obtain rfl : i=n:=by omega
  refine Ev.step (fun k=>spec_l2Identity.l0.eq_2 _ _ _ k) ?_
  exact ev_neg (by omega) (ev_now (idPart_all i))
 | d+1,i,hi=>by
  have hl:=idPart_length n i
  have hg : rd_L2 (idPart n i) (i : Int)=List.replicate n 0:=by
   rw [rdSS _ i (by omega)]
   simp [idPart]
  have ih:=spec_l2Identity.ev_l0 n hn d (i+1) (by omega)
  refine Ev.step (fun k=>spec_l2Identity.l0.eq_2 _ _ _ k) ?_
  rw [hg]
  refine ev_pos (by omega) (ev_pos (by omega) (ev_pos (by omega) (ev_pos (by simp;omega) ?_)))
  rw [inc (by omega),Int.toNat_natCast,idPart_succ n i (by omega)]
  exact ih
theorem spec_l2Identity.ev (n : Nat) (hn : n≤1048576) : Ev (fun k=>spec_l2Identity.f k (n : Int)) (idM n):=by
 unfold spec_l2Identity.f
 refine ev_bind (spec_l2Blank.ev n n hn hn) ?_
 have e : ((blankM n n).length : Int)=(n : Int):=by simp [blankM]
 rw [e,← idPart_zero]
 exact spec_l2Identity.ev_l0 n hn n 0 (by omega)

theorem sqM_good {l : List (List Int)} (h : goodM l=true) (hb : matBytes l) : sqM l=true:=by
 obtain ⟨h1,h2,h3⟩:=goodM_iff h
 refine sqM_iff.2 ⟨by omega,by omega,fun r hr=>⟨hb r hr,?_⟩⟩
 obtain ⟨i,hi,rfl⟩:=List.getElem_of_mem hr
 have:=h3 i hi
 rw [List.getD_eq_getElem?_getD,List.getElem?_eq_getElem hi] at this
 exact this
theorem matBytes_of {l : List (List Int)} (h : ∀ r ∈ l,(r.length≤maxLen∧∀ x ∈ r,(Lit.int .u8 x).wf=true)) : matBytes l:=fun r hr=>Bytes.of_wf (h r hr).2
theorem sqN_good {l : List (List Int)} (h : goodM l=true) (hb : matBytes l) (e : l.length=(l.getD 0 []).length) : sqN l=true:=by
 unfold sqN
 rw [sqM_good h hb,decide_eq_true (goodM_iff h).1.1,decide_eq_true e.symm]
 rfl
theorem spec_l2Inverse.ev {l : List (List Int)} (hs : sqN l=true) : spec_l2Inverse.f l=some ((redP l (idM l.length) l.length).1.map Prod.snd,decide ((redP l (idM l.length) l.length).2=l.length)):=by
 unfold spec_l2Inverse.f
 rw [if_pos hs]
theorem invM_yes {l : List (List Int)} (h : (redP l (idM l.length) l.length).2=l.length) : invM l=((redP l (idM l.length) l.length).1.map Prod.snd,true):=by
 unfold invM
 rw [if_neg (by omega)]
theorem invM_no {l : List (List Int)} (h : ¬ (redP l (idM l.length) l.length).2=l.length) : invM l=([],false):=by
 unfold invM
 have:=red_rank_le l (idM l.length) l.length
 rw [if_pos (by omega)]
theorem invM_ok {l : List (List Int)} (h : sqN l=true) : ((invM l).2=true→(invM l).1.length=l.length)∧(∀ r ∈ (invM l).1,okI l.length r)∧(invM l).1.length≤l.length:=by
 obtain ⟨h1,h2,h3⟩:=sqN_iff.1 h
 by_cases e : (redP l (idM l.length) l.length).2=l.length
 ·rw [invM_yes e]
  have hl : ((redP l (idM l.length) l.length).1.map Prod.snd).length=l.length:=by rw [List.length_map,redP_length _ _ _ (by rw [KitN.idM_length])]
  exact ⟨fun _=>hl,snd_all (redP_ok (n:=l.length) h3 (idM_ok l.length)),by show ((redP l (idM l.length) l.length).1.map Prod.snd).length≤_;omega⟩
 ·rw [invM_no e]
  exact ⟨fun z=>(by cases z),fun r hr=>(by cases hr),Nat.zero_le _⟩

theorem spec_l1Dot.ev_l0 (v w : List Int) (hv : Bytes v) (hw : Bytes w) (hl : v.length=w.length) (hs : v.length < 140737488355328) : ∀ (n i : Nat) (o : Int),i+n=v.length→Byte o →
  Ev (fun k=>spec_l1Dot.l0 k v w o (v.length : Int) (i : Int)) (gx o (dotV (v.drop i) (w.drop i)))
 | 0,i,o,hi,ho=>by
  refine Ev.step (fun k=>spec_l1Dot.l0.eq_2 _ _ _ _ _ k) ?_
  refine ev_neg (by omega) (ev_now ?_)
  rw [List.drop_of_length_le (by omega)]
  exact (gx_zero ho).symm
 | n+1,i,o,hi,ho=>by
  refine Ev.step (fun k=>spec_l1Dot.l0.eq_2 _ _ _ _ _ k) ?_
  refine ev_pos (by omega) (ev_pos (by omega) (ev_pos (by omega) (ev_pos (by omega) ?_)))
  have bv : Byte (rd v (i : Int)):=bytes_rd hv (by omega)
  have bw : Byte (rd w (i : Int)):=bytes_rd hw (by omega)
  refine ev_bind (spec_l1Times.ev bv bw) ?_
  have bm:=Byte.mul bv (rd w (i : Int))
  have bg:=Byte.gx ho bm
  rw [inc (by omega),xor_u8 ho bm]
  refine ev_eq (spec_l1Dot.ev_l0 v w hv hw hl hs n (i+1) _ (by omega) bg) ?_
  rw [drop_cons (l:=v) (i:=i) (by omega),drop_cons (l:=w) (i:=i) (by omega),rd_get (by omega),rd_get (by omega),dotV,gx_assoc]
theorem spec_l1Dot.ev {v w : List Int} (hv : Bytes v) (hw : Bytes w) (hl : v.length=w.length) (hs : v.length < 140737488355328) : Ev (fun k=>spec_l1Dot.f k v w) (dotV v w):=by
 unfold spec_l1Dot.f
 refine ev_eq (spec_l1Dot.ev_l0 v w hv hw hl hs v.length 0 0 (by omega) .zero) ?_
 exact zero_gx (dotV_byte hv)

def applyM (m : List (List Int)) (v : List Int) : List Int:=m.map fun r=>dotV r v
theorem applyM_length (m : List (List Int)) (v : List Int) : (applyM m v).length=m.length:=by simp [applyM]
theorem applyM_bytes {m : List (List Int)} (h : matBytes m) (v : List Int) : Bytes (applyM m v):=by
 intro x hx
 simp only [applyM,List.mem_map] at hx
 obtain ⟨r,hr,rfl⟩:=hx
 exact dotV_byte (h r hr)
theorem spec_l2Apply.ev_l0 (m : List (List Int)) (v : List Int) (hv : Bytes v) (hn : v.length≤1048576) (hr : ∀ r ∈ m,Bytes r∧r.length=v.length) (hl : m.length≤1048576) : ∀ (d i : Nat) (o : List Int),i+d=m.length→o=(applyM m v).take i →
  Ev (fun k=>spec_l2Apply.l0 k v o m (m.length : Int) (i : Int)) (applyM m v)
 | 0,i,o,hi,ho=>by
  refine Ev.step (fun k=>spec_l2Apply.l0.eq_2 _ _ _ _ _ k) ?_
  refine ev_neg (by omega) (ev_now ?_)
  rw [ho,List.take_of_length_le (by rw [applyM_length];omega)]
 | d+1,i,o,hi,ho=>by
  have hlen : o.length=i:=by rw [ho,List.length_take,applyM_length];omega
  have hri:=hr _ (List.getElem_mem (show i < m.length by omega))
  refine Ev.step (fun k=>spec_l2Apply.l0.eq_2 _ _ _ _ _ k) ?_
  refine ev_pos (by omega) (ev_pos (by omega) (ev_pos (by omega) ?_))
  rw [rdSS _ i (by omega)]
  refine ev_bind (spec_l1Dot.ev hri.1 hv hri.2 (by omega)) (ev_pos (by omega) ?_)
  rw [inc (by omega)]
  refine spec_l2Apply.ev_l0 m v hv hn hr hl d (i+1) _ (by omega) ?_
  rw [List.take_succ_eq_append_getElem (by rw [applyM_length];omega),← ho]
  simp [applyM]
theorem spec_l2Apply.ev {m : List (List Int)} {v : List Int} (hv : Bytes v) (hn : v.length≤1048576) (hr : ∀ r ∈ m,Bytes r∧r.length=v.length) (hl : m.length≤1048576) : Ev (fun k=>spec_l2Apply.f k m v) (applyM m v):=by
 unfold spec_l2Apply.f
 exact spec_l2Apply.ev_l0 m v hv hn hr hl m.length 0 [] (by omega) rfl

theorem spec_l1In.ev (a b c : Int) : spec_l1In.f a b c=some (decide (b≤a∧a≤c)):=by
 unfold spec_l1In.f
 by_cases h : a ≥ b
 ·rw [if_pos h];simp [h]
 ·rw [if_neg h];simp;omega

theorem spec_GoodMsr.ev (n k : Int) : spec_GoodMsr.f n k=some (decide (GoodMsr n k)):=by
 unfold spec_GoodMsr.f
 simp only [spec_l1In.ev,Option.bind_some,decide_eq_true_eq]
 by_cases h : 2≤k∧k≤4
 ·have e : wrap64 (wrap64 (2*k) - 1)=2*k - 1:=by unfold wrap64;omega
  simp [h,e]
 ·simp [h]

theorem spec_l5Piece.ev {n k : Int} (hg : GoodMsr n k) (x : Int) (l : List Int) : spec_l5Piece.f n k x l=some (decide (0≤x∧x≤n - 1∧(l.length : Int)=k - 1)):=by
 unfold spec_l5Piece.f
 have e : wrap64 (n - 1)=n - 1:=by unfold wrap64;omega
 have e2 : wrap64 (k - 1)=k - 1:=by unfold wrap64;omega
 simp only [spec_l1In.ev,Option.bind_some,decide_eq_true_eq,e,e2]
 by_cases h : 0≤x∧x≤n - 1
 ·rw [if_pos h];by_cases h2 : (l.length : Int)=k - 1 <;> simp [h,h2]
 ·rw [if_neg h];simp;omega

theorem spec_l5X.ev (j : Nat) (hj : j < 4294967296) : Ev (fun k=>spec_l5X.f k (j : Int)) (nodeX j):=by
 unfold spec_l5X.f
 rw [inc (by omega)]
 exact ev_bind (spec_l1Power.ev byte3 (j+1) (by omega)) (ev_now rfl)

theorem spec_l5F.ev (n : Int) (a j : Nat) (ha : a≤3) (hj : j < 4294967296) : Ev (fun k=>spec_l5F.f k n ((a+1 : Nat) : Int) (j : Int)) (pow (nodeX j) a):=by
 unfold spec_l5F.f
 have e : wrap64 (((a+1 : Nat) : Int) - 1)=(a : Int):=by unfold wrap64;omega
 rw [e]
 exact ev_bind (spec_l5X.ev j hj) (ev_bind (spec_l1Power.ev (nodeX_byte j) a (by omega)) (ev_now rfl))

theorem spec_l5Short.ev_l0 (n : Int) (a j : Nat) (ha : a≤3) (hj : j < 4294967296) : ∀ (d i : Nat) (o : List Int),i+d=a→o=(shortR a j).take i →
  Ev (fun k=>spec_l5Short.l0 k (j : Int) o (i : Int) n ((a+1 : Nat) : Int)) (shortR a j)
 | 0,i,o,hi,ho=>by
  have e : wrap64 (((a+1 : Nat) : Int) - 1)=(a : Int):=by unfold wrap64;omega
  refine Ev.step (fun k=>spec_l5Short.l0.eq_2 _ _ _ _ _ k) ?_
  rw [e]
  refine ev_neg (by omega) (ev_now ?_)
  rw [ho,List.take_of_length_le (by rw [shortR_length];omega)]
 | d+1,i,o,hi,ho=>by
  have e : wrap64 (((a+1 : Nat) : Int) - 1)=(a : Int):=by unfold wrap64;omega
  have hl : o.length≤3:=by rw [ho,List.length_take,shortR_length];omega
  refine Ev.step (fun k=>spec_l5Short.l0.eq_2 _ _ _ _ _ k) ?_
  rw [e]
  refine ev_pos (by omega) ?_
  refine ev_bind (spec_l5X.ev j hj) (ev_bind (spec_l1Power.ev (nodeX_byte j) i (by omega)) (ev_pos (by omega) ?_))
  rw [inc (by omega)]
  exact spec_l5Short.ev_l0 n a j ha hj d (i+1) _ (by omega) (by rw [shortR_succ a j i (by omega),← ho])
theorem spec_l5Short.ev (n : Int) (a j : Nat) (ha : a≤3) (hj : j < 4294967296) : Ev (fun k=>spec_l5Short.f k n ((a+1 : Nat) : Int) (j : Int)) (shortR a j):=by
 unfold spec_l5Short.f
 exact spec_l5Short.ev_l0 n a j ha hj a 0 [] (by omega) rfl

theorem spec_l5Row.ev (n : Int) (a j : Nat) (ha : a≤3) (hj : j < 4294967296) : Ev (fun k=>spec_l5Row.f k n ((a+1 : Nat) : Int) (j : Int)) (msrRow a j):=by
 unfold spec_l5Row.f
 have hl:=shortR_length a j
 have hs:=scale_length (pow (nodeX j) a) (shortR a j)
 refine ev_bind (spec_l5Short.ev n a j ha hj) ?_
 simp only [Option.bind_some,List.nil_append,List.length_nil]
 refine ev_pos (by omega) ?_
 refine ev_bind (spec_l5F.ev n a j ha hj) (ev_bind (spec_l1Scale.ev (Byte.pow (nodeX_byte j) a) (shortR_bytes a j) (by omega)) (ev_pos (by omega) (ev_now rfl)))

def trPart (l : List (List Int)) (i j : Nat) : List (List Int):=tab (l.getD 0 []).length l.length fun a b=>if b < i∨b=i∧a < j then (l.getD b []).getD a 0 else 0
theorem trPart_next (l : List (List Int)) (i : Nat) : trPart l i (l.getD 0 []).length=trPart l (i+1) 0:=by
 apply tab_congr
 intro a ha b hb
 by_cases h : b < i∨b=i∧a < (l.getD 0 []).length
 ·rw [if_pos h,if_pos (by omega)]
 ·rw [if_neg h,if_neg (by omega)]
theorem spec_l2Transposed.ev_l1 (l : List (List Int)) (hg : goodM l=true) (i : Nat) (hi : i < l.length) {R : List (List Int)}
  (K : Ev (fun k=>spec_l2Transposed.l0 k l (l.length : Int) ((i+1 : Nat) : Int) (trPart l (i+1) 0)) R) : ∀ (d j : Nat),j+d=(l.getD 0 []).length →
  Ev (fun k=>spec_l2Transposed.l1 k (i : Int) l (l.length : Int) (i : Int) (l.getD i []) ((l.getD i []).length : Int) (j : Int) (trPart l i j)) R
 | 0,j,hj=>by
  have hf:=goodM_iff hg
  refine Ev.step (fun k=>spec_l2Transposed.l1.eq_2 _ _ _ _ _ _ _ _ k) ?_
  have e:=hf.2.2 i hi
  refine ev_neg (by omega) ?_
  rw [inc (by omega),show j=(l.getD 0 []).length by omega,trPart_next]
  exact K
 | d+1,j,hj=>by
  have hf:=goodM_iff hg
  have e:=hf.2.2 i hi
  have hlen : (trPart l i j).length=(l.getD 0 []).length:=tab_length _ _ _
  have hrow : ((trPart l i j).getD j []).length=l.length:=tab_getD_length (by omega)
  refine Ev.step (fun k=>spec_l2Transposed.l1.eq_2 _ _ _ _ _ _ _ _ k) ?_
  simp only [rdSS0,Int.toNat_natCast]
  refine ev_pos (by omega) (ev_pos (by omega) (ev_pos (by omega) (ev_pos (by omega) (ev_pos (by omega) (ev_pos (by omega) ?_)))))
  rw [inc (by omega)]
  have hs : (trPart l i j).set j (((trPart l i j).getD j []).set i (rd (l.getD i []) (j : Int)))=trPart l i (j+1):=by
   unfold trPart
   rw [tab_set (by omega)]
   apply tab_congr
   intro a ha b hb
   by_cases h : a=j∧b=i
   ·obtain ⟨rfl,rfl⟩:=h
    rw [if_pos ⟨rfl,rfl⟩,if_pos (by omega),rd_nat]
   ·rw [if_neg h]
    by_cases h2 : b < i∨b=i∧a < j
    ·rw [if_pos h2,if_pos (by omega)]
    ·rw [if_neg h2,if_neg (by omega)]
  rw [hs]
  exact spec_l2Transposed.ev_l1 l hg i hi K d (j+1) (by omega)
theorem spec_l2Transposed.ev_l0 (l : List (List Int)) (hg : goodM l=true) : ∀ (d i : Nat),i+d=l.length→Ev (fun k=>spec_l2Transposed.l0 k l (l.length : Int) (i : Int) (trPart l i 0)) (trM l)
 | 0,i,hi=>by
  refine Ev.step (fun k=>spec_l2Transposed.l0.eq_2 _ _ _ _ k) ?_
  refine ev_neg (by omega) (ev_now ?_)
  apply tab_congr
  intro a ha b hb
  rw [if_pos (by omega)]
 | d+1,i,hi=>by
  have ih:=spec_l2Transposed.ev_l0 l hg d (i+1) (by omega)
  have hf:=goodM_iff hg
  refine Ev.step (fun k=>spec_l2Transposed.l0.eq_2 _ _ _ _ k) ?_
  refine ev_pos (by omega) (ev_pos (by omega) (ev_pos (by omega) ?_))
  simp only [rdSS0,Int.toNat_natCast]
  exact spec_l2Transposed.ev_l1 l hg i (by omega) ih (l.getD 0 []).length 0 (by omega)
theorem spec_l2Transposed.ev (l : List (List Int)) (hg : goodM l=true) : Ev (fun k=>spec_l2Transposed.f k l) (trM l):=by
 have hf:=goodM_iff hg
 unfold spec_l2Transposed.f
 refine ev_pos (by omega) ?_
 simp only [rdSS0,Int.toNat_zero]
 refine ev_bind (spec_l2Blank.ev _ _ (by omega) (by omega)) ?_
 have e : blankM (l.getD 0 []).length l.length=trPart l 0 0:=by
  rw [tab_blank]
  apply tab_congr
  intro a ha b hb
  rw [if_neg (by omega)]
 rw [e]
 exact spec_l2Transposed.ev_l0 l hg l.length 0 (by omega)

/-- Where a byte of data stands in the message's matrix. -/
def plc (a r j : Nat) : Nat:=(r / a)*(a*(a+1) / 2)+(min (r % a) j*a - min (r % a) j*(min (r % a) j - 1) / 2+(max (r % a) j - min (r % a) j))
theorem plc_lt {a : Nat} (h1 : 1≤a) (h3 : a≤3) {r j : Nat} (hr : r < 2*a) (hj : j < a) : plc a r j < a*(a+1):=by
 have h : a=1∨a=2∨a=3:=by omega
 have key : (∀ r,r < 2→∀ j,j < 1→plc 1 r j < 2)∧(∀ r,r < 4→∀ j,j < 2→plc 2 r j < 6)∧(∀ r,r < 6→∀ j,j < 3→plc 3 r j < 12):=by decide
 rcases h with rfl | rfl | rfl
 ·exact key.1 r hr j hj
 ·exact key.2.1 r hr j hj
 ·exact key.2.2 r hr j hj
/-- The message's matrix. -/
def msgM (a : Nat) (D : List Int) : List (List Int):=tab (2*a) a fun r j=>D.getD (plc a r j) 0
theorem msg_list (f : Nat→Int) : (List.range 2).map f=[f 0,f 1]∧(List.range 6).map f=[f 0,f 1,f 2,f 3,f 4,f 5]∧(List.range 12).map f=[f 0,f 1,f 2,f 3,f 4,f 5,f 6,f 7,f 8,f 9,f 10,f 11]:=⟨rfl,rfl,rfl⟩
theorem spec_l5Message.ev (n : Int) {a : Nat} (ha1 : 1≤a) (ha3 : a≤3) {D : List Int} (hl : D.length=a*(a+1)) : Ev (fun k=>spec_l5Message.f k n ((a+1 : Nat) : Int) D) (msgM a D):=by
 unfold spec_l5Message.f
 have e1 : wrap64 (((a+1 : Nat) : Int) - 1)=(a : Int):=by unfold wrap64;omega
 have e2 : wrap64 (2*(a : Int))=((2*a : Nat) : Int):=by unfold wrap64;omega
 rw [e1,e2]
 refine ev_bind (spec_l2Blank.ev (2*a) a (by omega) (by omega)) ?_
 refine Ev.of (k:=60) (fun k=>(spec_l5Message.mono_l k).1 _ _ _ _ _) ?_
 have hD:=row_self hl
 generalize D.getD=g at hD
 have h : a=1∨a=2∨a=3:=by omega
 unfold msgM
 rcases h with rfl | rfl | rfl
 ·rw [hD]
  generalize (fun j=>g j 0)=f
  rw [show (1*(1+1))=2 from rfl,(msg_list f).1]
  show _=_;kernel_rfl
 ·rw [hD]
  generalize (fun j=>g j 0)=f
  rw [show (2*(2+1))=6 from rfl,(msg_list f).2.1]
  show _=_;kernel_rfl
 ·rw [hD]
  generalize (fun j=>g j 0)=f
  rw [show (3*(3+1))=12 from rfl,(msg_list f).2.2]
  show _=_;kernel_rfl

theorem unk_mem {n m : Nat} {f : Nat→Nat→Int} : ∀ r ∈ tab n m f,r.length=m:=fun r hr=>by
 simp only [tab,List.mem_map] at hr
 obtain ⟨i,_,rfl⟩:=hr
 simp
theorem unk_good {M : List (List Int)} {n : Nat} (hM : ∀ r ∈ M,r.length=n) (h1 : 1≤M.length) (h2 : M.length≤16) (h3 : 1≤n) (h4 : n≤16) : goodM M=true:=by
 have e : ∀ i,i < M.length→(M.getD i []).length=n:=fun i hi=>by
  rw [List.getD_eq_getElem?_getD,List.getElem?_eq_getElem hi]
  exact hM _ (List.getElem_mem hi)
 have e0:=e 0 (by omega)
 unfold goodM
 rw [e0]
 have : ((List.range M.length).any fun i=>(M.getD i []).length != n)=false:=by
  rw [List.any_eq_false]
  intro i hi
  rw [e i (List.mem_range.1 hi)]
  simp
 rw [this]
 simp [h1,h2,h3,h4]
def unkF (a node i c : Nat) : Int:=sumOver (fun r=>if plc a r i=c then (msrRow a node).getD r 0 else 0) (2*a)
def unkM (a node : Nat) : List (List Int):=tab a (a*(a+1)) (unkF a node)
def unkPart (a node c i : Nat) : List (List Int):=tab a (a*(a+1)) fun x y=>if y < c∨y=c∧x < i then unkF a node x y else 0
def oneV (b c : Nat) : List Int:=(List.replicate b 0).set c 1
def unkCol (a node c : Nat) : List Int:=applyM (trM (msgM a (oneV (a*(a+1)) c))) (msrRow a node)
theorem unkF_byte (a node i c : Nat) : Byte (unkF a node i c):=sumOver_byte _ fun r _=>by
 split
 ·exact bytes_getD (msrRow_bytes a node) r
 ·exact .zero
theorem oneV_length (b c : Nat) : (oneV b c).length=b:=by simp [oneV]
theorem oneV_get {b c : Nat} (hc : c < b) (j : Nat) : (oneV b c).getD j 0=if j=c then 1 else 0:=by
 unfold oneV
 rw [List.getD_eq_getElem?_getD,List.getElem?_set]
 by_cases h : c=j
 ·subst h
  simp [hc]
 ·rw [if_neg h,if_neg (fun e=>h e.symm)]
  by_cases hj : j < b <;> simp [hj]
theorem oneV_bytes {b c : Nat} : Bytes (oneV b c):=by
 intro x hx
 rcases List.mem_or_eq_of_mem_set hx with h | h
 ·rw [(List.mem_replicate.1 h).2];exact .zero
 ·rw [h];exact ⟨by decide,by decide⟩
theorem row_getD {f : Nat→Int} {n j : Nat} (h : j < n) : ((List.range n).map f).getD j 0=f j:=by simp [List.getD,h]
theorem map_getD {α : Type} {l : List α} {f : α→Int} {i : Nat} (h : i < l.length) : (l.map f).getD i 0=f l[i]:=by simp [List.getD,h]
theorem unkCol_length {a : Nat} (h1 : 1≤a) (node c : Nat) : (unkCol a node c).length=a:=by
 unfold unkCol
 rw [applyM_length]
 unfold trM
 rw [tab_length]
 exact tab_getD_length (by omega)
theorem unkCol_get {a : Nat} (h1 : 1≤a) (node : Nat) {c i : Nat} (hc : c < a*(a+1)) (hi : i < a) : (unkCol a node c).getD i 0=unkF a node i c:=by
 have hf : ((msgM a (oneV (a*(a+1)) c)).getD 0 []).length=a:=tab_getD_length (by omega)
 have hl : (msgM a (oneV (a*(a+1)) c)).length=2*a:=tab_length _ _ _
 have ht : (trM (msgM a (oneV (a*(a+1)) c))).length=a:=by unfold trM;rw [tab_length,hf]
 unfold unkCol applyM
 rw [map_getD (by rw [ht];exact hi)]
 have e : (trM (msgM a (oneV (a*(a+1)) c)))[i]'(by rw [ht];exact hi)=(List.range (msgM a (oneV (a*(a+1)) c)).length).map fun r=>((msgM a (oneV (a*(a+1)) c)).getD r []).getD i 0:=by
  simp only [trM,tab,List.getElem_map,List.getElem_range]
 rw [e,hl,row_self (msrRow_length a node)]
 have hM : ∀ r,r < 2*a→((msgM a (oneV (a*(a+1)) c)).getD r []).getD i 0=if plc a r i=c then 1 else 0:=fun r hr=>by
  unfold msgM
  rw [tab_get2 hr hi,oneV_get hc]
 rw [dotV_range _ _ _ (fun r hr=>by rw [hM r hr];split;exact ⟨by decide,by decide⟩;exact .zero)]
 refine sumOver_congr _ fun r hr=>?_
 rw [hM r hr]
 have hb:=bytes_getD (msrRow_bytes a node) r
 split
 ·rw [mul_comm ⟨by decide,by decide⟩ hb,mul_one hb]
 ·rw [mul_comm .zero hb,mul_zero]
theorem unkPart_next (a node c : Nat) : unkPart a node c a=unkPart a node (c+1) 0:=by
 apply tab_congr
 intro x hx y hy
 by_cases h : y < c∨y=c∧x < a
 ·rw [if_pos h,if_pos (by omega)]
 ·rw [if_neg h,if_neg (by omega)]
theorem unkPart_set {a node c i : Nat} (hi : i < a) : (unkPart a node c i).set i (((unkPart a node c i).getD i []).set c (unkF a node i c))=unkPart a node c (i+1):=by
 unfold unkPart
 rw [tab_set hi]
 apply tab_congr
 intro x hx y hy
 by_cases h : x=i∧y=c
 ·rw [if_pos h,if_pos (by omega),h.1,h.2]
 ·rw [if_neg h]
  by_cases h2 : y < c∨y=c∧x < i
  ·rw [if_pos h2,if_pos (by omega)]
  ·rw [if_neg h2,if_neg (by omega)]
theorem unk_b {a : Nat} (h3 : a≤3) : a*(a+1)≤12:=Nat.mul_le_mul h3 (Nat.succ_le_succ h3)
theorem spec_l5Unknowns.ev_l2 (n : Int) {a : Nat} (h1 : 1≤a) (h3 : a≤3) {node c : Nat} (hc : c < a*(a+1)) {R : List (List Int)}
  (K : Ev (fun k=>spec_l5Unknowns.l1 k (node : Int) ((a*(a+1) : Nat) : Int) (unkPart a node (c+1) 0) ((c+1 : Nat) : Int) n ((a+1 : Nat) : Int)) R) : ∀ (d i : Nat),i+d=a →
  Ev (fun k=>spec_l5Unknowns.l2 k (node : Int) ((a*(a+1) : Nat) : Int) (unkPart a node c i) (c : Int) (unkCol a node c) (a : Int) (i : Int) n ((a+1 : Nat) : Int)) R
 | 0,i,hi=>by
  refine Ev.step (fun k=>spec_l5Unknowns.l2.eq_2 _ _ _ _ _ _ _ _ _ k) ?_
  refine ev_neg (by omega) ?_
  have hb:=unk_b h3
  rw [inc (by omega),show i=a by omega,unkPart_next]
  exact K
 | d+1,i,hi=>by
  have hil : i < a:=by omega
  have hl : (unkPart a node c i).length=a:=tab_length _ _ _
  have hr : ((unkPart a node c i).getD i []).length=a*(a+1):=tab_getD_length hil
  have hcl:=unkCol_length h1 node c
  refine Ev.step (fun k=>spec_l5Unknowns.l2.eq_2 _ _ _ _ _ _ _ _ _ k) ?_
  refine ev_pos (by omega) (ev_pos (by omega) (ev_pos (by omega) (ev_pos (by omega) (ev_pos (by omega) ?_))))
  simp only [rdSS0,rd_nat,Int.toNat_natCast]
  refine ev_pos (by omega) ?_
  rw [unkCol_get h1 node hc hil,unkPart_set hil,inc (by omega)]
  exact spec_l5Unknowns.ev_l2 n h1 h3 hc K d (i+1) (by omega)
theorem spec_l5Unknowns.ev_l1 (n : Int) {a : Nat} (h1 : 1≤a) (h3 : a≤3) {node : Nat} (hn : node < 4294967296) : ∀ (d c : Nat),c+d=a*(a+1) →
  Ev (fun k=>spec_l5Unknowns.l1 k (node : Int) ((a*(a+1) : Nat) : Int) (unkPart a node c 0) (c : Int) n ((a+1 : Nat) : Int)) (unkM a node)
 | 0,c,hc=>by
  refine Ev.step (fun k=>spec_l5Unknowns.l1.eq_2 _ _ _ _ _ _ k) ?_
  refine ev_neg (by omega) (ev_now ?_)
  apply tab_congr
  intro x hx y hy
  rw [if_pos (by omega)]
 | d+1,c,hc=>by
  have hb:=unk_b h3
  have hlc : c < a*(a+1):=by omega
  have hg : goodM (msgM a (oneV (a*(a+1)) c))=true:=unk_good (n:=a) unk_mem (by unfold msgM;rw [tab_length];omega) (by unfold msgM;rw [tab_length];omega) h1 (by omega)
  have hf : ((msgM a (oneV (a*(a+1)) c)).getD 0 []).length=a:=tab_getD_length (by omega)
  have hl : (msgM a (oneV (a*(a+1)) c)).length=2*a:=tab_length _ _ _
  have hmb : matBytes (msgM a (oneV (a*(a+1)) c)):=tab_bytes fun _ _ _ _=>bytes_getD oneV_bytes _
  have hrl:=msrRow_length a node
  refine Ev.step (fun k=>spec_l5Unknowns.l1.eq_2 _ _ _ _ _ _ k) ?_
  refine ev_pos (by omega) (ev_pos (by omega) (ev_pos (by omega) ?_))
  simp only [Option.bind_some,Int.toNat_natCast]
  refine ev_pos (by omega) (ev_pos (by simp only [List.length_replicate];omega) ?_)
  rw [show (List.replicate (a*(a+1)) (0 : Int)).set c 1=oneV (a*(a+1)) c from rfl]
  refine ev_bind (spec_l5Message.ev n h1 h3 (oneV_length _ c)) (ev_bind (spec_l2Transposed.ev _ hg) (ev_bind (spec_l5Row.ev n a node h3 hn) (ev_bind (spec_l2Apply.ev (msrRow_bytes a node) (by omega) (fun r hr=>⟨(tab_bytes fun _ _ _ _=>matBytes_get hmb _ _) r hr,(unk_mem r hr).trans (hl.trans hrl.symm)⟩) (by unfold trM;rw [tab_length];omega)) ?_)))
  have hcl:=unkCol_length h1 node c
  show Ev (fun k=>spec_l5Unknowns.l2 k (node : Int) ((a*(a+1) : Nat) : Int) (unkPart a node c 0) (c : Int) (unkCol a node c) ((unkCol a node c).length : Int) 0 n ((a+1 : Nat) : Int)) _
  rw [hcl]
  exact spec_l5Unknowns.ev_l2 n h1 h3 hlc (spec_l5Unknowns.ev_l1 n h1 h3 hn d (c+1) (by omega)) a 0 (by omega)
theorem spec_l5Unknowns.ev_l0 (n : Int) {a : Nat} (h1 : 1≤a) (h3 : a≤3) {node : Nat} (hn : node < 4294967296) : ∀ (d i : Nat),i+d=a →
  Ev (fun k=>spec_l5Unknowns.l0 k (node : Int) ((a*(a+1) : Nat) : Int) (List.replicate i (List.replicate (a*(a+1)) 0) ++ List.replicate d []) (a : Int) (i : Int) n ((a+1 : Nat) : Int)) (unkM a node)
 | 0,i,hi=>by
  refine Ev.step (fun k=>spec_l5Unknowns.l0.eq_2 _ _ _ _ _ _ _ k) ?_
  refine ev_neg (by omega) ?_
  have e : List.replicate i (List.replicate (a*(a+1)) (0 : Int)) ++ List.replicate 0 []=unkPart a node 0 0:=by
   rw [List.replicate_zero,List.append_nil,show i=a by omega]
   refine (tab_blank a (a*(a+1))).trans (tab_congr fun x _ y _=>?_)
   rw [if_neg (by omega)]
  rw [e]
  exact spec_l5Unknowns.ev_l1 n h1 h3 hn (a*(a+1)) 0 (by omega)
 | d+1,i,hi=>by
  have hb:=unk_b h3
  refine Ev.step (fun k=>spec_l5Unknowns.l0.eq_2 _ _ _ _ _ _ _ k) ?_
  refine ev_pos (by omega) (ev_pos (by omega) (ev_pos (by omega) (ev_pos (by omega) (ev_pos (by simp only [List.length_append,List.length_replicate];omega) ?_))))
  rw [inc (by omega)]
  simp only [Int.toNat_natCast]
  have e : (List.replicate i (List.replicate (a*(a+1)) (0 : Int)) ++ List.replicate (d+1) []).set i (List.replicate (a*(a+1)) 0)=List.replicate (i+1) (List.replicate (a*(a+1)) 0) ++ List.replicate d []:=by
   rw [List.set_append_right _ _ (by simp),List.length_replicate,Nat.sub_self,List.replicate_succ,List.set_cons_zero,List.replicate_succ',List.append_assoc]
   rfl
  rw [e]
  exact spec_l5Unknowns.ev_l0 n h1 h3 hn d (i+1) (by omega)
theorem spec_l5Unknowns.ev {n : Int} {a : Nat} (h1 : 1≤a) (h3 : a≤3) {node : Nat} (hn : node < 4294967296) : Ev (fun k=>spec_l5Unknowns.f k n ((a+1 : Nat) : Int) (node : Int)) (unkM a node):=by
 unfold spec_l5Unknowns.f
 have hb:=unk_b h3
 rw [show wrap64 (((a+1 : Nat) : Int) - 1)=(a : Int) by unfold wrap64;omega,show wrap64 (((a+1 : Nat) : Int)*(a : Int))=((a*(a+1) : Nat) : Int) by rw [← Int.natCast_mul,Nat.mul_comm];unfold wrap64;omega]
 refine ev_pos (by omega) (ev_pos (by omega) ?_)
 simp only [Option.bind_some,Int.toNat_natCast,List.length_replicate]
 exact spec_l5Unknowns.ev_l0 n h1 h3 hn a 0 (by omega)

abbrev Pk:=S69
def pcN (l : List Pk) : List Int:=l.map (·.f0)
theorem pcN_length (l : List Pk) : (pcN l).length=l.length:=by simp [pcN]
theorem rdPk {l : List Pk} {i : Nat} (h : i < l.length) : rd_T69 l (i : Int)=l[i]:=by unfold rd_T69;simp [List.getD,h]
theorem pcN_rd {l : List Pk} {i : Nat} (h : i < l.length) : rd (pcN l) (i : Int)=(l[i]).f0:=by rw [rd_get (by rw [pcN_length];exact h)];simp [pcN]
def pcOk (l : List Pk) (m a : Nat) : Bool:=(List.range l.length).all fun i=>riseAt (pcN l) m i && decide ((l.getD i z69).f1.length=a)
theorem pc_getD {l : List Pk} {i : Nat} (h : i < l.length) : l.getD i z69=l[i]:=by simp [List.getD,h]
theorem pcOk_yes {l : List Pk} {m a : Nat} (h : ∀ j (hj : j < l.length),riseAt (pcN l) m j=true∧(l[j]).f1.length=a) : pcOk l m a=true:=by
 unfold pcOk
 rw [List.all_eq_true]
 intro x hx
 have hx:=List.mem_range.1 hx
 have:=h x hx
 rw [this.1,pc_getD hx,decide_eq_true this.2];rfl
theorem pcOk_no {l : List Pk} {m a i : Nat} (hi : i < l.length) (h : riseAt (pcN l) m i=false∨¬ (l[i]).f1.length=a) : pcOk l m a=false:=by
 unfold pcOk
 rw [List.all_eq_false]
 refine ⟨i,List.mem_range.2 hi,?_⟩
 rw [pc_getD hi]
 rcases h with h | h
 ·rw [h];simp
 ·rw [decide_eq_false h];simp
def rowsOf (a : Nat) (l : List Pk) : List (List Int):=l.flatMap fun p=>unkM a p.f0.toNat
def dataOf (l : List Pk) : List Int:=l.flatMap fun p=>p.f1
theorem unkM_length (a node : Nat) : (unkM a node).length=a:=tab_length _ _ _
theorem rowsOf_snoc (a : Nat) (l : List Pk) (p : Pk) : rowsOf a (l ++ [p])=rowsOf a l ++ unkM a p.f0.toNat:=by simp [rowsOf]
theorem dataOf_snoc (l : List Pk) (p : Pk) : dataOf (l ++ [p])=dataOf l ++ p.f1:=by simp [dataOf]
theorem rowsOf_length (a : Nat) : ∀ l : List Pk,(rowsOf a l).length=l.length*a
 | []=>by simp [rowsOf]
 | p :: l=>by
  have:=rowsOf_length a l
  unfold rowsOf at this ⊢
  rw [List.flatMap_cons,List.length_append,unkM_length,this,List.length_cons,Nat.succ_mul];omega
theorem dataOf_length {a : Nat} : ∀ l : List Pk,(∀ p ∈ l,p.f1.length=a)→(dataOf l).length=l.length*a
 | [],_=>by simp [dataOf]
 | p :: l,h=>by
  have:=dataOf_length l (fun q hq=>h q (by simp [hq]))
  have hp:=h p (by simp)
  unfold dataOf at this ⊢
  rw [List.flatMap_cons,List.length_append,hp,this,List.length_cons,Nat.succ_mul];omega
theorem dataOf_bytes {l : List Pk} (h : ∀ p ∈ l,Bytes p.f1) : Bytes (dataOf l):=by
 intro x hx
 obtain ⟨p,hp,hx⟩:=List.mem_flatMap.1 hx
 exact h p hp x hx
theorem rowsOf_sq {a : Nat} {l : List Pk} (h1 : 1≤a) (h3 : a≤3) (hl : l.length=a+1) : sqN (rowsOf a l)=true:=by
 have hz:=rowsOf_length a l
 rw [hl,Nat.mul_comm] at hz
 have hb:=unk_b h3
 have hp : 1*1≤a*(a+1):=Nat.mul_le_mul h1 (by omega)
 refine sqN_iff.2 ⟨by omega,by omega,fun r hr=>?_⟩
 obtain ⟨p,_,hr⟩:=List.mem_flatMap.1 hr
 refine ⟨tab_bytes (fun i _ j _=>unkF_byte a _ i j) r hr,?_⟩
 rw [hz]
 simp only [unkM,tab,List.mem_map] at hr
 obtain ⟨i,_,rfl⟩:=hr
 simp
def decTail (a : Nat) (l : List Pk) : List Int × Bool:=if (invM (rowsOf a l)).2=true then (applyM (invM (rowsOf a l)).1 (dataOf l),true) else ([],false)
def decVal (n k : Int) (l : List Pk) : List Int × Bool:=if GoodMsr n k∧k≤(l.length : Int)∧pcOk l n.toNat (k.toNat - 1)=true then decTail (k.toNat - 1) (l.take k.toNat) else ([],false)
theorem take_next {l : List Pk} {K i : Nat} (hi : i < l.length) (hK : i < K) : (l.take K).take (i+1)=(l.take K).take i ++ [l[i]]:=by
 rw [List.take_succ_eq_append_getElem (by rw [List.length_take];omega),List.getElem_take]
theorem take_stay {l : List Pk} {K i : Nat} (hK : K≤i) : (l.take K).take (i+1)=(l.take K).take i:=by
 exact (List.take_of_length_le (l:=l.take K) (by rw [List.length_take];omega)).trans (List.take_of_length_le (l:=l.take K) (by rw [List.length_take];omega)).symm
theorem take_lens {l : List Pk} {a K : Nat} (h : ∀ j (hj : j < l.length),(l[j]).f1.length=a) : ∀ p ∈ l.take K,p.f1.length=a:=by
 intro p hp
 obtain ⟨j,hj,rfl⟩:=List.getElem_of_mem (List.mem_of_mem_take hp)
 exact h j hj
theorem spec_DecodeMsr.ev_l0 (a m : Nat) (hg : GoodMsr (m : Int) ((a+1 : Nat) : Int)) (l : List Pk) (hl : a+1≤l.length) (hlm : l.length≤1048576) (hb : ∀ p ∈ l,Bytes p.f1) : ∀ (d i : Nat) (g : List Int) (M : List (List Int)),i+d=l.length→g=dataOf ((l.take (a+1)).take i)→M=rowsOf a ((l.take (a+1)).take i)→g.length≤3*i→M.length≤3*i →
  (∀ j (hj : j < l.length),j < i→riseAt (pcN l) m j=true∧(l[j]).f1.length=a) →
  Ev (fun q=>spec_DecodeMsr.l0 q l g l (l.length : Int) (i : Int) (m : Int) ((a+1 : Nat) : Int) M) (if pcOk l m a=true then decTail a (l.take (a+1)) else ([],false))
 | 0,i,g,M,hi,hgi,hM,_,_,hall=>by
  have ha1 : 1≤a:=by omega
  have ha3 : a≤3:=by omega
  have hall2 : ∀ j (hj : j < l.length),riseAt (pcN l) m j=true∧(l[j]).f1.length=a:=fun j hj=>hall j hj (by omega)
  have hs:=rowsOf_sq (l:=l.take (a+1)) ha1 ha3 (by rw [List.length_take];omega)
  obtain ⟨o1,o2,o3⟩:=invM_ok hs
  have hrl:=rowsOf_length a (l.take (a+1))
  have hdl:=dataOf_length (l.take (a+1)) (take_lens fun j hj=>(hall2 j hj).2)
  have hdb : Bytes (dataOf (l.take (a+1))):=dataOf_bytes fun p hp=>hb p (List.mem_of_mem_take hp)
  have hub:=unk_b ha3
  have htl : (l.take (a+1)).length=a+1:=by rw [List.length_take];omega
  rw [htl,Nat.mul_comm] at hrl hdl
  refine Ev.step (fun k=>spec_DecodeMsr.l0.eq_2 _ _ _ _ _ _ _ _ k) ?_
  refine ev_neg (by omega) ?_
  rw [if_pos (pcOk_yes hall2),hgi,hM,List.take_of_length_le (l:=l.take (a+1)) (by omega),spec_l2Inverse.ev hs]
  simp only [Option.bind_some]
  unfold decTail
  by_cases z : (redP (rowsOf a (l.take (a+1))) (idM (rowsOf a (l.take (a+1))).length) (rowsOf a (l.take (a+1))).length).2=(rowsOf a (l.take (a+1))).length
  ·rw [invM_yes z] at o1 o2 o3 ⊢
   rw [if_pos rfl]
   have hml : ((redP (rowsOf a (l.take (a+1))) (idM (rowsOf a (l.take (a+1))).length) (rowsOf a (l.take (a+1))).length).1.map Prod.snd).length≤12:=Nat.le_trans o3 (by omega)
   exact ev_pos (decide_eq_true z) (ev_bind (spec_l2Apply.ev hdb (by omega) (fun r hr=>⟨(o2 r hr).1,by rw [(o2 r hr).2,hrl,hdl]⟩) (by omega)) (ev_now rfl))
  ·rw [invM_no z,if_neg (by simp)]
   exact ev_neg (by simpa using z) (ev_now rfl)
 | d+1,i,g,M,hi,hgi,hM,hgl,hMl,hall=>by
  have ha1 : 1≤a:=by omega
  have ha3 : a≤3:=by omega
  have hil : i < l.length:=by omega
  have hx:=pcN_rd hil
  have ih:=fun g' M' hg' hM' h1 h2 hall'=>spec_DecodeMsr.ev_l0 a m hg l hl hlm hb d (i+1) g' M' (by omega) hg' hM' h1 h2 hall'
  refine Ev.step (fun k=>spec_DecodeMsr.l0.eq_2 _ _ _ _ _ _ _ _ k) ?_
  rw [rdPk hil]
  refine ev_pos (by omega) (ev_pos (by omega) (ev_pos (by omega) ?_))
  simp only [spec_l5Piece.ev hg,Option.bind_some,decide_eq_true_eq]
  have hno : riseAt (pcN l) m i=false∨¬ (l[i]).f1.length=a→Ev (fun k=>spec_DecodeMsr.j2 k l g (i : Int) l (l.length : Int) (i : Int) true (m : Int) ((a+1 : Nat) : Int) M (l[i]).f0 (l[i]).f1) (if pcOk l m a=true then decTail a (l.take (a+1)) else ([],false)):=fun h=>by
   refine Ev.step (fun k=>spec_DecodeMsr.j2.eq_2 _ _ _ _ _ _ _ _ _ _ _ _ k) ?_
   refine ev_pos rfl (ev_now ?_)
   rw [pcOk_no hil h,if_neg (by simp)]
  by_cases c : 0≤(l[i]).f0∧(l[i]).f0≤(m : Int) - 1∧((l[i]).f1.length : Int)=((a+1 : Nat) : Int) - 1
  ·refine ev_pos c ?_
   have hla : (l[i]).f1.length=a:=by omega
   obtain ⟨j,hj⟩ : ∃ j : Nat,(l[i]).f0=(j : Int):=⟨(l[i]).f0.toNat,by omega⟩
   have hgo : riseAt (pcN l) m i=true→Ev (fun k=>spec_DecodeMsr.j2 k l g (i : Int) l (l.length : Int) (i : Int) false (m : Int) ((a+1 : Nat) : Int) M (l[i]).f0 (l[i]).f1) (if pcOk l m a=true then decTail a (l.take (a+1)) else ([],false)):=by
    intro hr
    have hall' : ∀ t (ht : t < l.length),t < i+1→riseAt (pcN l) m t=true∧(l[t]).f1.length=a:=fun t ht h=>by
     by_cases e : t=i
     ·subst e;exact ⟨hr,hla⟩
     ·exact hall t ht (by omega)
    refine Ev.step (fun k=>spec_DecodeMsr.j2.eq_2 _ _ _ _ _ _ _ _ _ _ _ _ k) ?_
    refine ev_neg (by simp) ?_
    by_cases hK : i < a+1
    ·refine ev_pos (by omega) ?_
     have hun:=spec_l5Unknowns.ev (n:=(m : Int)) ha1 ha3 (node:=j) (by omega)
     rw [← hj] at hun
     have hul:=unkM_length a j
     refine ev_bind hun (ev_pos (by omega) (ev_pos (by omega) ?_))
     rw [inc (by omega)]
     refine ih _ _ ?_ ?_ (by rw [List.length_append];omega) (by rw [List.length_append];omega) hall'
     ·rw [take_next hil hK,dataOf_snoc,← hgi]
     ·rw [take_next hil hK,rowsOf_snoc,← hM,hj,Int.toNat_natCast]
    ·refine ev_neg (by omega) ?_
     rw [inc (by omega)]
     exact ih _ _ (by rw [take_stay (by omega)];exact hgi) (by rw [take_stay (by omega)];exact hM) (by omega) (by omega) hall'
   by_cases hz : i=0
   ·subst hz
    exact ev_neg (by omega) (hgo (riseAt_yes (by rw [hx];omega) (.inl rfl)))
   ·have hp : i - 1 < l.length:=by omega
    refine ev_pos (by omega) ?_
    rw [show wrap64 ((i : Int) - 1)=((i - 1 : Nat) : Int) by unfold wrap64;omega,rdPk hp]
    refine ev_pos (by omega) (ev_pos (by omega) ?_)
    have hxp:=pcN_rd hp
    by_cases c3 : (l[i - 1]).f0 < (l[i]).f0
    ·rw [decide_eq_false (show ¬ (l[i - 1]).f0 ≥ (l[i]).f0 by omega)]
     exact hgo (riseAt_yes (by rw [hx];omega) (.inr (by rw [hx,hxp];exact c3)))
    ·rw [decide_eq_true (show (l[i - 1]).f0 ≥ (l[i]).f0 by omega)]
     exact hno (.inl (riseAt_no (fun y=>by rcases y.2 with w | w;exact hz w;rw [hx,hxp] at w;exact c3 w)))
  ·refine ev_neg c (hno ?_)
   by_cases c2 : (l[i]).f1.length=a
   ·exact .inl (riseAt_no (fun y=>by have:=y.1;rw [hx] at this;omega))
   ·exact .inr c2
theorem spec_DecodeMsr.ev (n k : Int) (l : List Pk) (hlm : l.length≤1048576) (hb : ∀ p ∈ l,Bytes p.f1) : Ev (fun q=>spec_DecodeMsr.f q n k l) (decVal n k l):=by
 unfold spec_DecodeMsr.f decVal
 simp only [spec_GoodMsr.ev,Option.bind_some,decide_eq_true_eq]
 by_cases h : GoodMsr n k
 ·refine ev_pos h ?_
  refine Ev.step (fun k=>spec_DecodeMsr.j0.eq_2 _ _ _ _ k) ?_
  by_cases h2 : (l.length : Int) < k
  ·rw [if_neg (fun y=>by have:=y.2.1;omega)]
   exact ev_pos (decide_eq_true h2) (ev_now rfl)
  ·refine ev_neg (by simpa using h2) ?_
   obtain ⟨a,m,rfl,rfl,h3⟩:=GoodMsr_nat h
   refine ev_eq (spec_DecodeMsr.ev_l0 a m h l (by omega) hlm hb l.length 0 [] [] (by omega) rfl rfl (by simp) (by simp) (fun j hj h=>absurd h (by omega))) ?_
   simp only [Int.toNat_natCast,Nat.add_sub_cancel]
   by_cases h5 : pcOk l m a=true
   ·rw [if_pos h5,if_pos ⟨h,by omega,h5⟩]
   ·rw [if_neg h5,if_neg (fun y=>h5 y.2.2)]
 ·rw [if_neg (fun y=>h y.1)]
  refine ev_neg h ?_
  refine Ev.step (fun k=>spec_DecodeMsr.j0.eq_2 _ _ _ _ k) ?_
  exact ev_pos rfl (ev_now rfl)

theorem laws_toByteS.ev_l0 (l : List Int) (hl : l.length < 4611686018427387904) : ∀ (n i : Nat) (o : List Int),i+n=l.length→o.length=l.length→o.take i=l.take i →
  Ev (fun k=>laws_toByteS.l0 k l o (i : Int)) l
 | 0,i,o,hi,ho,ht=>by
  refine Ev.step (fun k=>laws_toByteS.l0.eq_2 _ _ _ k) ?_
  refine ev_neg (by omega) (ev_now ?_)
  rw [List.take_of_length_le (by omega),List.take_of_length_le (by omega)] at ht
  exact ht
 | n+1,i,o,hi,ho,ht=>by
  refine Ev.step (fun k=>laws_toByteS.l0.eq_2 _ _ _ k) ?_
  refine ev_pos (by omega) (ev_pos (by omega) (ev_pos (by omega) ?_))
  rw [inc (by omega),Int.toNat_natCast]
  refine laws_toByteS.ev_l0 l hl n (i+1) _ (by omega) (by simpa using ho) ?_
  rw [take_set_succ _ _ _ (by omega),ht,List.take_succ_eq_append_getElem (by omega),rd_get (by omega)]
theorem laws_toByteS.ev (l : List Int) (hl : l.length≤281474976710656) : Ev (fun k=>laws_toByteS.f k l) l:=by
 unfold laws_toByteS.f
 refine ev_pos (by omega) (ev_pos (by omega) ?_)
 exact laws_toByteS.ev_l0 l (by omega) l.length 0 _ (by omega) (by simp) rfl

theorem laws_toPiece.ev (x : Int) (l : List Int) (hl : l.length≤281474976710656) : Ev (fun k=>laws_toPiece.f k x l) (x,l):=by
 unfold laws_toPiece.f
 exact ev_bind (laws_toByteS.ev l hl) (ev_now rfl)

def toPc (x : S169) : S69:=⟨x.f0,x.f1⟩
theorem laws_toPieceS.ev_l0 (l : List (S169)) (hl : l.length < 4611686018427387904) (hs : ∀ x ∈ l,x.f1.length≤281474976710656) : ∀ (n i : Nat) (o : List (S69)),i+n=l.length→o.length=l.length→o.take i=(l.map toPc).take i →
  Ev (fun k=>laws_toPieceS.l0 k l o (i : Int)) (l.map toPc)
 | 0,i,o,hi,ho,ht=>by
  refine Ev.step (fun k=>laws_toPieceS.l0.eq_2 _ _ _ k) ?_
  refine ev_neg (by omega) (ev_now ?_)
  rw [List.take_of_length_le (by omega),List.take_of_length_le (by simp;omega)] at ht
  exact ht
 | n+1,i,o,hi,ho,ht=>by
  have e : rd_T169 l (i : Int)=l[i]'(by omega):=by unfold rd_T169;simp [List.getD,show i < l.length by omega]
  refine Ev.step (fun k=>laws_toPieceS.l0.eq_2 _ _ _ k) ?_
  refine ev_pos (by omega) (ev_pos (by omega) ?_)
  rw [e]
  refine ev_bind (laws_toPiece.ev _ _ (hs _ (List.getElem_mem _))) (ev_pos (by omega) ?_)
  rw [inc (by omega),Int.toNat_natCast]
  refine laws_toPieceS.ev_l0 l hl hs n (i+1) _ (by omega) (by simpa using ho) ?_
  rw [List.take_succ_eq_append_getElem (by simp;omega),List.take_succ_eq_append_getElem (by simp;omega),← ht]
  simp [toPc,List.take_set_of_le]
theorem laws_toPieceS.ev (l : List (S169)) (hl : l.length≤1048576) (hs : ∀ x ∈ l,x.f1.length≤281474976710656) : Ev (fun k=>laws_toPieceS.f k l) (l.map toPc):=by
 unfold laws_toPieceS.f
 refine ev_pos (by omega) (ev_pos (by omega) ?_)
 exact laws_toPieceS.ev_l0 l (by omega) hs l.length 0 _ (by omega) (by simp) rfl

theorem impl_identity.ev_l0 (n : Nat) (hn : n≤1048576) : ∀ (d i : Nat) (o : List (List Int)),i+d=n→o=(idM n).take i→Ev (fun k=>impl_identity.l0 k (n : Int) o (n : Int) (i : Int)) (idM n)
 | 0,i,o,hi,ho=>by
  refine Ev.step (fun k=>impl_identity.l0.eq_2 _ _ _ _ k) ?_
  refine ev_neg (by omega) (ev_now ?_)
  rw [ho,List.take_of_length_le (by simp [idM];omega)]
 | d+1,i,o,hi,ho=>by
  have hl : o.length=i:=by rw [ho,List.length_take];simp [idM];omega
  refine Ev.step (fun k=>impl_identity.l0.eq_2 _ _ _ _ k) ?_
  simp only [Option.bind_some,Int.toNat_natCast,List.length_replicate]
  refine ev_pos (by omega) (ev_pos (by omega) (ev_pos (by omega) (ev_pos (by omega) (ev_pos (by omega) (ev_pos (by omega) ?_)))))
  rw [inc (by omega)]
  refine impl_identity.ev_l0 n hn d (i+1) _ (by omega) ?_
  rw [List.take_succ_eq_append_getElem (by simp [idM];omega),← ho]
  simp [idM]
theorem impl_identity.ev (n : Nat) (hn : n≤1048576) : Ev (fun k=>impl_identity.f k (n : Int)) (idM n):=by
 unfold impl_identity.f
 exact impl_identity.ev_l0 n hn n 0 [] (by omega) rfl

theorem impl_added.ev_l0 (v w : List Int) (hv : Bytes v) (hw : Bytes w) (hl : v.length=w.length) (hs : v.length < 140737488355328) : ∀ (n i : Nat) (o : List Int),i+n=v.length→o=(addV v w).take i →
  Ev (fun k=>impl_added.l0 k w o v (v.length : Int) (i : Int)) (addV v w)
 | 0,i,o,hi,ho=>by
  refine Ev.step (fun k=>impl_added.l0.eq_2 _ _ _ _ _ k) ?_
  refine ev_neg (by omega) (ev_now ?_)
  subst ho
  rw [List.take_of_length_le (by rw [addV_length];omega)]
 | n+1,i,o,hi,ho=>by
  have hz:=addV_length v w
  have hlen : o.length=i:=by rw [ho,List.length_take,hz];omega
  refine Ev.step (fun k=>impl_added.l0.eq_2 _ _ _ _ _ k) ?_
  refine ev_pos (by omega) (ev_pos (by omega) (ev_pos (by omega) (ev_pos (by omega) (ev_pos (by omega) ?_))))
  rw [inc (by omega),xor_u8 (bytes_rd hv (by omega)) (bytes_rd hw (by omega)),rd_get (by omega),rd_get (by omega)]
  refine impl_added.ev_l0 v w hv hw hl hs n (i+1) _ (by omega) ?_
  rw [List.take_succ_eq_append_getElem (by omega),← ho]
  simp [addV]
theorem impl_added.ev {v w : List Int} (hv : Bytes v) (hw : Bytes w) (hl : v.length=w.length) (hs : v.length < 140737488355328) : Ev (fun k=>impl_added.f k v w) (addV v w):=by
 unfold impl_added.f
 exact impl_added.ev_l0 v w hv hw hl hs v.length 0 [] (by omega) rfl

theorem impl_scaled.ev_l0 (a : Int) (ha : Byte a) (v : List Int) (hv : Bytes v) (hs : v.length < 140737488355328) : ∀ (n i : Nat) (o : List Int),i+n=v.length→o=(scale a v).take i →
  Ev (fun k=>impl_scaled.l0 k a o v (v.length : Int) (i : Int)) (scale a v)
 | 0,i,o,hi,ho=>by
  refine Ev.step (fun k=>impl_scaled.l0.eq_2 _ _ _ _ _ k) ?_
  refine ev_neg (by omega) (ev_now ?_)
  subst ho
  rw [List.take_of_length_le (by rw [scale_length];omega)]
 | n+1,i,o,hi,ho=>by
  have hz:=scale_length a v
  have hlen : o.length=i:=by rw [ho,List.length_take,hz];omega
  refine Ev.step (fun k=>impl_scaled.l0.eq_2 _ _ _ _ _ k) ?_
  refine ev_pos (by omega) (ev_pos (by omega) (ev_pos (by omega) ?_))
  refine ev_bind (impl_Times.ev ha (bytes_rd hv (by omega))) ?_
  refine ev_pos (by omega) ?_
  rw [inc (by omega),rd_get (by omega)]
  refine impl_scaled.ev_l0 a ha v hv hs n (i+1) _ (by omega) ?_
  rw [List.take_succ_eq_append_getElem (by omega),← ho]
  simp [scale]
theorem impl_scaled.ev {a : Int} (ha : Byte a) {v : List Int} (hv : Bytes v) (hs : v.length < 140737488355328) : Ev (fun k=>impl_scaled.f k a v) (scale a v):=by
 unfold impl_scaled.f
 exact impl_scaled.ev_l0 a ha v hv hs v.length 0 [] (by omega) rfl

theorem impl_Inverse.ev {a : Int} (ha : Byte a) : Ev (fun k=>impl_Inverse.f k a) (inv a):=by
 unfold impl_Inverse.f
 exact ev_bind (impl_power.ev ha 254 (by decide)) (ev_now (inv_pow a).symm)

theorem impl_inverseOf.ev {l : List (List Int)} (hs : sqN l=true) : impl_inverseOf.f l=some (invM l):=by
 unfold impl_inverseOf.f
 rw [if_pos hs]

theorem impl_dot.ev_l0 (v w : List Int) (hv : Bytes v) (hw : Bytes w) (hl : v.length=w.length) (hs : v.length < 140737488355328) : ∀ (n i : Nat) (o : Int),i+n=v.length→Byte o →
  Ev (fun k=>impl_dot.l0 k w o v (v.length : Int) (i : Int)) (gx o (dotV (v.drop i) (w.drop i)))
 | 0,i,o,hi,ho=>by
  refine Ev.step (fun k=>impl_dot.l0.eq_2 _ _ _ _ _ k) ?_
  refine ev_neg (by omega) (ev_now ?_)
  rw [List.drop_of_length_le (by omega)]
  exact (gx_zero ho).symm
 | n+1,i,o,hi,ho=>by
  refine Ev.step (fun k=>impl_dot.l0.eq_2 _ _ _ _ _ k) ?_
  refine ev_pos (by omega) (ev_pos (by omega) (ev_pos (by omega) (ev_pos (by omega) ?_)))
  have bv : Byte (rd v (i : Int)):=bytes_rd hv (by omega)
  have bw : Byte (rd w (i : Int)):=bytes_rd hw (by omega)
  refine ev_bind (impl_Times.ev bv bw) ?_
  have bm:=Byte.mul bv (rd w (i : Int))
  have bg:=Byte.gx ho bm
  rw [inc (by omega),xor_u8 ho bm]
  refine ev_eq (impl_dot.ev_l0 v w hv hw hl hs n (i+1) _ (by omega) bg) ?_
  rw [drop_cons (l:=v) (i:=i) (by omega),drop_cons (l:=w) (i:=i) (by omega),rd_get (by omega),rd_get (by omega),dotV,gx_assoc]
theorem impl_dot.ev {v w : List Int} (hv : Bytes v) (hw : Bytes w) (hl : v.length=w.length) (hs : v.length < 140737488355328) : Ev (fun k=>impl_dot.f k v w) (dotV v w):=by
 unfold impl_dot.f
 refine ev_eq (impl_dot.ev_l0 v w hv hw hl hs v.length 0 0 (by omega) .zero) ?_
 exact zero_gx (dotV_byte hv)

theorem impl_solve.ev_l0 (m : List (List Int)) (v : List Int) (hv : Bytes v) (hn : v.length≤1048576) (hr : ∀ r ∈ m,Bytes r∧r.length=v.length) (hl : m.length≤1048576) : ∀ (d i : Nat) (o : List Int),i+d=m.length→o=(applyM m v).take i →
  Ev (fun k=>impl_solve.l0 k v o m (m.length : Int) (i : Int)) (applyM m v,true)
 | 0,i,o,hi,ho=>by
  refine Ev.step (fun k=>impl_solve.l0.eq_2 _ _ _ _ _ k) ?_
  refine ev_neg (by omega) (ev_now ?_)
  rw [ho,List.take_of_length_le (by rw [applyM_length];omega)]
 | d+1,i,o,hi,ho=>by
  have hlen : o.length=i:=by rw [ho,List.length_take,applyM_length];omega
  have hri:=hr _ (List.getElem_mem (show i < m.length by omega))
  refine Ev.step (fun k=>impl_solve.l0.eq_2 _ _ _ _ _ k) ?_
  refine ev_pos (by omega) (ev_pos (by omega) (ev_pos (by omega) ?_))
  rw [rdSS _ i (by omega)]
  refine ev_bind (impl_dot.ev hri.1 hv hri.2 (by omega)) (ev_pos (by omega) ?_)
  rw [inc (by omega)]
  refine impl_solve.ev_l0 m v hv hn hr hl d (i+1) _ (by omega) ?_
  rw [List.take_succ_eq_append_getElem (by rw [applyM_length];omega),← ho]
  simp [applyM]
theorem impl_solve.ev {l : List (List Int)} {v : List Int} (hs : sqN l=true) (hv : Bytes v) (hn : v.length=l.length) : Ev (fun k=>impl_solve.f k l v) (if (invM l).2=true then (applyM (invM l).1 v,true) else ([],false)):=by
 unfold impl_solve.f
 rw [impl_inverseOf.ev hs]
 simp only [Option.bind_some]
 have hl:=(sqN_iff.1 hs).2.1
 obtain ⟨h1,h2,h3⟩:=invM_ok hs
 by_cases z : (invM l).2=true
 ·rw [if_pos z]
  refine ev_pos z ?_
  exact impl_solve.ev_l0 (invM l).1 v hv (by omega) (fun r hr=>⟨(h2 r hr).1,by rw [(h2 r hr).2,hn]⟩) (by omega) (invM l).1.length 0 [] (by omega) rfl
 ·rw [if_neg z]
  exact ev_neg z (ev_now rfl)

theorem impl_Msr_alpha.ev {n k : Int} (h : GoodMsr n k) : impl_Msr_alpha.f n k=some (k - 1):=by
 unfold impl_Msr_alpha.f
 have e : wrap64 (k - 1)=k - 1:=by unfold wrap64;omega
 rw [e]

theorem impl_Msr_powers.ev_l0 {n : Int} (a j : Nat) (hg : GoodMsr n ((a+1 : Nat) : Int)) : ∀ (d i : Nat) (o : List Int),i+d=a→o=(shortR a j).take i →
  Ev (fun k=>impl_Msr_powers.l0 k (nodeX j) o (a : Int) (i : Int) n ((a+1 : Nat) : Int)) (shortR a j,pow (nodeX j) a)
 | 0,i,o,hi,ho=>by
  have e : ((a+1 : Nat) : Int) - 1=(a : Int):=by omega
  refine Ev.step (fun k=>impl_Msr_powers.l0.eq_2 _ _ _ _ _ _ k) ?_
  refine ev_neg (by omega) ?_
  simp only [impl_Msr_alpha.ev hg,Option.bind_some,e]
  refine ev_bind (impl_power.ev (nodeX_byte j) a (by omega)) (ev_now ?_)
  rw [ho,List.take_of_length_le (by rw [shortR_length];omega)]
 | d+1,i,o,hi,ho=>by
  have hl : o.length≤3:=by rw [ho,List.length_take,shortR_length];omega
  refine Ev.step (fun k=>impl_Msr_powers.l0.eq_2 _ _ _ _ _ _ k) ?_
  refine ev_pos (by omega) ?_
  refine ev_bind (impl_power.ev (nodeX_byte j) i (by omega)) (ev_pos (by omega) ?_)
  rw [inc (by omega)]
  exact impl_Msr_powers.ev_l0 a j hg d (i+1) _ (by omega) (by rw [shortR_succ a j i (by omega),← ho])
theorem impl_Msr_powers.ev {n : Int} (a j : Nat) (hg : GoodMsr n ((a+1 : Nat) : Int)) (hj : j < 1000000) : Ev (fun k=>impl_Msr_powers.f k n ((a+1 : Nat) : Int) (j : Int)) (shortR a j,pow (nodeX j) a):=by
 unfold impl_Msr_powers.f
 have e : ((a+1 : Nat) : Int) - 1=(a : Int):=by omega
 rw [inc (by omega)]
 refine ev_bind (impl_power.ev byte3 (j+1) (by omega)) ?_
 simp only [impl_Msr_alpha.ev hg,Option.bind_some,e]
 exact impl_Msr_powers.ev_l0 a j hg a 0 [] (by omega) rfl

theorem impl_Msr_row.ev {n : Int} (a j : Nat) (hg : GoodMsr n ((a+1 : Nat) : Int)) (hj : j < 1000000) : Ev (fun k=>impl_Msr_row.f k n ((a+1 : Nat) : Int) (j : Int)) (msrRow a j):=by
 unfold impl_Msr_row.f
 have hl:=shortR_length a j
 have hs:=scale_length (pow (nodeX j) a) (shortR a j)
 refine ev_bind (impl_Msr_powers.ev a j hg hj) ?_
 dsimp only
 exact ev_bind (impl_scaled.ev (Byte.pow (nodeX_byte j) a) (shortR_bytes a j) (by omega)) (ev_pos (by omega) (ev_now rfl))

theorem impl_within.ev (a b c : Int) : impl_within.f a b c=some (decide (b≤a∧a≤c)):=by
 unfold impl_within.f
 by_cases h : a ≥ b
 ·rw [if_pos h];simp [h]
 ·rw [if_neg h];simp;omega

theorem impl_GoodMsr.ev (n k : Int) : impl_GoodMsr.f n k=some (decide (GoodMsr n k)):=by
 unfold impl_GoodMsr.f
 simp only [impl_within.ev,Option.bind_some,decide_eq_true_eq]
 by_cases h : 2≤k∧k≤4
 ·have e : wrap64 (wrap64 (2*k) - 1)=2*k - 1:=by unfold wrap64;omega
  simp [h,e]
 ·simp [h]

def placeM (a : Nat) : List (List Int):=tab (2*a) a fun r j=>(plc a r j : Int)
theorem impl_Msr_places.ev {n : Int} {a : Nat} (hg : GoodMsr n ((a+1 : Nat) : Int)) : Ev (fun k=>impl_Msr_places.f k n ((a+1 : Nat) : Int)) (placeM a):=by
 refine Ev.of (k:=60) (fun k=>impl_Msr_places.mono _ _ k) ?_
 unfold impl_Msr_places.f
 rw [impl_Msr_alpha.ev hg]
 simp only [Option.bind_some]
 have h : a=1∨a=2∨a=3:=by omega
 rcases h with rfl | rfl | rfl
 ·show _=_;kernel_rfl
 ·show _=_;kernel_rfl
 ·show _=_;kernel_rfl

theorem msr_size {n k : Int} (h : GoodMsr n k) : wrap64 (k*(k - 1))=k*(k - 1):=by
 have : k=2∨k=3∨k=4:=by omega
 rcases this with rfl | rfl | rfl <;> (unfold wrap64;omega)
theorem impl_Msr_size.ev {n k : Int} (h : GoodMsr n k) : impl_Msr_size.f n k=some (k*(k - 1)):=by
 unfold impl_Msr_size.f
 simp only [impl_Msr_alpha.ev h,Option.bind_some,msr_size h]

theorem impl_Msr_isPiece.ev {n k : Int} (hg : GoodMsr n k) (x : Int) (l : List Int) : impl_Msr_isPiece.f n k x l=some (decide (0≤x∧x≤n - 1∧(l.length : Int)=k - 1)):=by
 unfold impl_Msr_isPiece.f
 have e : wrap64 (n - 1)=n - 1:=by unfold wrap64;omega
 simp only [impl_within.ev,impl_Msr_alpha.ev hg,Option.bind_some,decide_eq_true_eq,e]
 by_cases h : 0≤x∧x≤n - 1
 ·rw [if_pos h];by_cases h2 : (l.length : Int)=k - 1 <;> simp [h,h2]
 ·rw [if_neg h];simp;omega

def unkPre (a node t r : Nat) : List Int:=(List.range (a*(a+1))).map fun c=>sumOver (fun r=>if plc a r t=c then (msrRow a node).getD r 0 else 0) r
theorem unkPre_zero (a node t : Nat) : List.replicate (a*(a+1)) (0 : Int)=unkPre a node t 0:=by
 unfold unkPre
 simp only [sumOver]
 rw [List.map_const',List.length_range]
theorem unkPre_full {a node t : Nat} (ht : t < a) : unkPre a node t (2*a)=(unkM a node).getD t []:=by
 unfold unkM
 rw [tab_getD ht]
 rfl
theorem unkPre_byte (a node t r c : Nat) : Byte (sumOver (fun r=>if plc a r t=c then (msrRow a node).getD r 0 else 0) r):=sumOver_byte _ fun r _=>by
 split
 ·exact bytes_getD (msrRow_bytes a node) r
 ·exact .zero
theorem unkPre_next {a node t r : Nat} (h1 : 1≤a) (h3 : a≤3) (ht : t < a) (hr : r < 2*a) : (unkPre a node t r).set (plc a r t) (Go.bits .xor .u8 ((unkPre a node t r).getD (plc a r t) 0) ((msrRow a node).getD r 0))=unkPre a node t (r+1):=by
 have hp:=plc_lt h1 h3 hr ht
 have hb:=bytes_getD (msrRow_bytes a node) r
 unfold unkPre
 rw [row_getD hp,xor_u8 (unkPre_byte a node t r _) hb,row_set]
 apply List.map_congr_left
 intro c hc
 show _=gx (sumOver (fun r=>if plc a r t=c then (msrRow a node).getD r 0 else 0) r) (if plc a r t=c then (msrRow a node).getD r 0 else 0)
 by_cases h : c=plc a r t
 ·rw [if_pos h,if_pos h.symm,h]
 ·rw [if_neg h,if_neg (fun e=>h e.symm),gx_zero (unkPre_byte a node t r c)]
theorem impl_DecodeMsr.ev_l3 {n : Int} {a node t : Nat} (h1 : 1≤a) (h3 : a≤3) (ht : t < a) {M : List (List Int)} {g : List Int} (hM : M.length≤1000000) (hgl : g.length≤1000000) {x : Int} {P : List Pk} {lp ip : Int} {dat : List Int} {ld : Int} {R : List Int × Bool}
  (K : Ev (fun q=>impl_DecodeMsr.l2 q (placeM a) (M ++ [(unkM a node).getD t []]) (g ++ [x]) (msrRow a node) P lp ip dat ld ((t+1 : Nat) : Int) n ((a+1 : Nat) : Int)) R) : ∀ (d r : Nat),r+d=2*a →
  Ev (fun q=>impl_DecodeMsr.l3 q (placeM a) M g (msrRow a node) (t : Int) x (unkPre a node t r) P lp ip dat ld (t : Int) (msrRow a node) ((2*a : Nat) : Int) (r : Int) n ((a+1 : Nat) : Int)) R
 | 0,r,hr=>by
  refine Ev.step (fun k=>impl_DecodeMsr.l3.eq_2 _ _ _ _ _ _ _ _ _ _ _ _ _ _ _ _ _ _ k) ?_
  refine ev_neg (by omega) (ev_pos (by omega) (ev_pos (by omega) ?_))
  rw [inc (by omega),show r=2*a by omega,unkPre_full ht]
  exact K
 | d+1,r,hr=>by
  have hrl : r < 2*a:=by omega
  have hp:=plc_lt h1 h3 hrl ht
  have hl:=msrRow_length a node
  have hpl : (placeM a).length=2*a:=tab_length _ _ _
  have hpr : ((placeM a).getD r []).length=a:=tab_getD_length hrl
  have hpv : ((placeM a).getD r []).getD t 0=(plc a r t : Int):=tab_get2 hrl ht
  have hul : (unkPre a node t r).length=a*(a+1):=by simp [unkPre]
  refine Ev.step (fun k=>impl_DecodeMsr.l3.eq_2 _ _ _ _ _ _ _ _ _ _ _ _ _ _ _ _ _ _ k) ?_
  have e5 : rd_L5 (placeM a) (r : Int)=(placeM a).getD r []:=by unfold rd_L5;rw [Int.toNat_natCast]
  rw [e5]
  simp only [rd_nat,hpv]
  refine ev_pos (by omega) (ev_pos (by omega) (ev_pos (by omega) (ev_pos (by omega) (ev_pos (by omega) (ev_pos (by omega) (ev_pos (by omega) (ev_pos (by omega) ?_)))))))
  rw [Int.toNat_natCast,unkPre_next h1 h3 ht hrl,inc (by omega)]
  exact impl_DecodeMsr.ev_l3 h1 h3 ht hM hgl K d (r+1) (by omega)
theorem impl_DecodeMsr.ev_l2 {m a node : Nat} (hg : GoodMsr (m : Int) ((a+1 : Nat) : Int)) {M : List (List Int)} {g : List Int} (hM : M.length≤1000) (hgl : g.length≤1000) {P : List Pk} {lp : Int} {i : Nat} (hi : i < 1000) {dat : List Int} (hd : dat.length=a) {R : List Int × Bool}
  (K : Ev (fun q=>impl_DecodeMsr.l1 q (placeM a) (M ++ unkM a node) (g ++ dat) P lp ((i+1 : Nat) : Int) (m : Int) ((a+1 : Nat) : Int)) R) : ∀ (d t : Nat),t+d=a →
  Ev (fun q=>impl_DecodeMsr.l2 q (placeM a) (M ++ (unkM a node).take t) (g ++ dat.take t) (msrRow a node) P lp (i : Int) dat (a : Int) (t : Int) (m : Int) ((a+1 : Nat) : Int)) R
 | 0,t,ht=>by
  have hul:=unkM_length a node
  refine Ev.step (fun k=>impl_DecodeMsr.l2.eq_2 _ _ _ _ _ _ _ _ _ _ _ _ k) ?_
  refine ev_neg (by omega) ?_
  rw [inc (by omega),List.take_of_length_le (by omega),List.take_of_length_le (by omega)]
  exact K
 | d+1,t,ht=>by
  have h1 : 1≤a:=by omega
  have h3 : a≤3:=by omega
  have htl : t < a:=by omega
  have hul:=unkM_length a node
  have hub:=unk_b h3
  have hl:=msrRow_length a node
  have es : ((a+1 : Nat) : Int)*(((a+1 : Nat) : Int) - 1)=((a*(a+1) : Nat) : Int):=by
   have e : ((a+1 : Nat) : Int) - 1=(a : Int):=by omega
   rw [e,← Int.natCast_mul,Nat.mul_comm]
  refine Ev.step (fun k=>impl_DecodeMsr.l2.eq_2 _ _ _ _ _ _ _ _ _ _ _ _ k) ?_
  rw [impl_Msr_size.ev hg,es]
  simp only [Option.bind_some,Int.toNat_natCast]
  refine ev_pos (by omega) (ev_pos (by omega) (ev_pos (by omega) (ev_pos (by omega) (ev_pos (by omega) ?_))))
  rw [unkPre_zero a node t,hl]
  refine impl_DecodeMsr.ev_l3 h1 h3 htl (by rw [List.length_append,List.length_take];omega) (by rw [List.length_append,List.length_take];omega) ?_ (2*a) 0 (by omega)
  have e1 : M ++ (unkM a node).take t ++ [(unkM a node).getD t []]=M ++ (unkM a node).take (t+1):=by
   rw [List.append_assoc,List.take_succ_eq_append_getElem (by omega)]
   simp [List.getD,show t < (unkM a node).length by omega]
  have e2 : g ++ dat.take t ++ [rd dat (t : Int)]=g ++ dat.take (t+1):=by
   rw [List.append_assoc,List.take_succ_eq_append_getElem (by omega),rd_nat]
   simp [List.getD,show t < dat.length by omega]
  rw [e1,e2]
  exact impl_DecodeMsr.ev_l2 hg hM hgl hi hd K d (t+1) (by omega)
theorem impl_DecodeMsr.ev_l1 {m a : Nat} (hg : GoodMsr (m : Int) ((a+1 : Nat) : Int)) {P : List Pk} (hP : P.length=a+1) (hb : ∀ p ∈ P,Bytes p.f1) (hok : ∀ j (hj : j < P.length),(0≤(P[j]).f0∧(P[j]).f0≤(m : Int) - 1)∧(P[j]).f1.length=a) : ∀ (d i : Nat),i+d=P.length →
  Ev (fun q=>impl_DecodeMsr.l1 q (placeM a) (rowsOf a (P.take i)) (dataOf (P.take i)) P (P.length : Int) (i : Int) (m : Int) ((a+1 : Nat) : Int)) (decTail a P)
 | 0,i,hi=>by
  have h1 : 1≤a:=by omega
  have h3 : a≤3:=by omega
  have hlen : ∀ p ∈ P,p.f1.length=a:=fun p hp=>by
   obtain ⟨j,hj,rfl⟩:=List.getElem_of_mem hp
   exact (hok j hj).2
  have hs:=rowsOf_sq h1 h3 hP
  refine Ev.step (fun k=>impl_DecodeMsr.l1.eq_2 _ _ _ _ _ _ _ _ k) ?_
  refine ev_neg (by omega) ?_
  rw [List.take_of_length_le (by omega)]
  refine ev_bind (impl_solve.ev hs (dataOf_bytes hb) (by rw [dataOf_length P hlen,rowsOf_length])) (ev_now ?_)
  rfl
 | d+1,i,hi=>by
  have h1 : 1≤a:=by omega
  have h3 : a≤3:=by omega
  have hil : i < P.length:=by omega
  have hub:=unk_b h3
  obtain ⟨hx,hla⟩:=hok i hil
  obtain ⟨j,hj⟩ : ∃ j : Nat,(P[i]).f0=(j : Int):=⟨(P[i]).f0.toNat,by omega⟩
  have hrow:=impl_Msr_row.ev a j hg (by omega)
  rw [← hj] at hrow
  refine Ev.step (fun k=>impl_DecodeMsr.l1.eq_2 _ _ _ _ _ _ _ _ k) ?_
  rw [rdPk hil]
  refine ev_pos (by omega) (ev_pos (by omega) (ev_pos (by omega) (ev_bind hrow ?_)))
  have hlen : ∀ p ∈ P.take i,p.f1.length=a:=fun p hp=>by
   obtain ⟨j,hj,rfl⟩:=List.getElem_of_mem (List.mem_of_mem_take hp)
   exact (hok j hj).2
  have hpl : (P.take i).length≤3:=by rw [List.length_take];omega
  have hmul : (P.take i).length*a≤3*3:=Nat.mul_le_mul hpl h3
  have K:=impl_DecodeMsr.ev_l1 hg hP hb hok d (i+1) (by omega)
  rw [List.take_succ_eq_append_getElem hil,rowsOf_snoc,dataOf_snoc,hj,Int.toNat_natCast] at K
  have h2:=impl_DecodeMsr.ev_l2 hg (M:=rowsOf a (P.take i)) (g:=dataOf (P.take i)) (by rw [rowsOf_length];omega) (by rw [dataOf_length _ hlen];omega) (i:=i) (by omega) hla K a 0 (by omega)
  rw [List.take_zero,List.append_nil,List.take_zero,List.append_nil] at h2
  rw [hla]
  exact h2
theorem impl_DecodeMsr.ev_l0 {m a : Nat} (hg : GoodMsr (m : Int) ((a+1 : Nat) : Int)) {l : List Pk} (hl : a+1≤l.length) (hlm : l.length≤1048576) (hb : ∀ p ∈ l,Bytes p.f1) (hok : ∀ j (hj : j < l.length),(0≤(l[j]).f0∧(l[j]).f0≤(m : Int) - 1)∧(l[j]).f1.length=a) : ∀ (d i : Nat),1≤i→i+d=l.length →
  (∀ j (hj : j < l.length),j < i→riseAt (pcN l) m j=true) →
  Ev (fun q=>impl_DecodeMsr.l0 q l (i : Int) (m : Int) ((a+1 : Nat) : Int)) (if pcOk l m a=true then decTail a (l.take (a+1)) else ([],false))
 | 0,i,_,hi,hall=>by
  have htl : (l.take (a+1)).length=a+1:=by rw [List.length_take];omega
  refine Ev.step (fun k=>impl_DecodeMsr.l0.eq_2 _ _ _ _ k) ?_
  refine ev_neg (by omega) (ev_bind (impl_Msr_places.ev hg) (ev_pos (by omega) (ev_pos (by omega) ?_)))
  simp only [Option.bind_some,Int.toNat_natCast]
  rw [if_pos (pcOk_yes fun j hj=>⟨hall j hj (by omega),(hok j hj).2⟩)]
  exact impl_DecodeMsr.ev_l1 hg htl (fun p hp=>hb p (List.mem_of_mem_take hp)) (fun j hj=>by rw [List.getElem_take];exact hok j (by omega)) (l.take (a+1)).length 0 (by omega)
 | d+1,i,h1i,hi,hall=>by
  have hil : i < l.length:=by omega
  have hp : i - 1 < l.length:=by omega
  have hx:=pcN_rd hil
  have hxp:=pcN_rd hp
  refine Ev.step (fun k=>impl_DecodeMsr.l0.eq_2 _ _ _ _ k) ?_
  rw [show wrap64 ((i : Int) - 1)=((i - 1 : Nat) : Int) by unfold wrap64;omega,rdPk hil,rdPk hp]
  refine ev_pos (by omega) (ev_pos (by omega) (ev_pos (by omega) (ev_pos (by omega) ?_)))
  by_cases c3 : (l[i - 1]).f0 < (l[i]).f0
  ·refine ev_neg (by omega) ?_
   rw [inc (by omega)]
   refine impl_DecodeMsr.ev_l0 hg hl hlm hb hok d (i+1) (by omega) (by omega) (fun j hj h=>?_)
   by_cases e : j=i
   ·subst e
    exact riseAt_yes (by rw [hx];exact (hok _ hil).1) (.inr (by rw [hx,hxp];exact c3))
   ·exact hall j hj (by omega)
  ·refine ev_pos (by omega) (ev_now ?_)
   rw [pcOk_no hil (.inl (riseAt_no (fun y=>by rcases y.2 with w | w;omega;rw [hx,hxp] at w;exact c3 w))),if_neg (by simp)]
theorem dec_any {n k : Int} (hg : GoodMsr n k) {l : List Pk} (hl : l.length≤1048576) : dec_Piece.f l n k=some ((List.range l.length).any fun i=>!decide (0≤(l.getD i z69).f0∧(l.getD i z69).f0≤n - 1∧((l.getD i z69).f1.length : Int)=k - 1)):=by
 have hi : ∀ (x : Int) (l : List Int),impl_Msr_isPiece.f n k x l=some (decide (0≤x∧x≤n - 1∧(l.length : Int)=k - 1)):=fun x l=>by
  unfold impl_Msr_isPiece.f
  have e : wrap64 (n - 1)=n - 1:=by unfold wrap64;omega
  simp only [impl_within.ev,impl_Msr_alpha.ev hg,Option.bind_some,decide_eq_true_eq,e]
  by_cases h : 0≤x∧x≤n - 1
  ·rw [if_pos h];by_cases h2 : (l.length : Int)=k - 1 <;> simp [h,h2]
  ·rw [if_neg h];simp;omega
 unfold dec_Piece.f
 rw [if_pos ⟨hl,fun p _=>by rw [hi];rfl⟩]
 simp only [hi,Option.getD_some]
theorem impl_DecodeMsr.ev (n k : Int) (l : List Pk) (hlm : l.length≤1048576) (hb : ∀ p ∈ l,Bytes p.f1) : Ev (fun q=>impl_DecodeMsr.f q n k l) (decVal n k l):=by
 unfold impl_DecodeMsr.f decVal
 simp only [impl_GoodMsr.ev,Option.bind_some,decide_eq_true_eq]
 by_cases h : GoodMsr n k
 ·refine ev_pos h ?_
  by_cases h2 : (l.length : Int) < k
  ·refine ev_pos h2 ?_
   refine Ev.step (fun k=>impl_DecodeMsr.j0.eq_2 _ _ _ _ k) ?_
   rw [if_neg (fun y=>by have:=y.2.1;omega)]
   exact ev_pos rfl (ev_now rfl)
  ·refine ev_neg h2 ?_
   rw [dec_any h hlm]
   simp only [Option.bind_some]
   refine Ev.step (fun k=>impl_DecodeMsr.j0.eq_2 _ _ _ _ k) ?_
   obtain ⟨a,m,rfl,rfl,h3⟩:=GoodMsr_nat h
   simp only [Int.toNat_natCast,Nat.add_sub_cancel]
   by_cases hok : ∀ j (hj : j < l.length),(0≤(l[j]).f0∧(l[j]).f0≤(m : Int) - 1)∧(l[j]).f1.length=a
   ·refine ev_neg ?_ ?_
    ·rw [Bool.not_eq_true,List.any_eq_false]
     intro i hi
     have hi:=List.mem_range.1 hi
     have:=hok i hi
     rw [pc_getD hi,decide_eq_true (show 0≤(l[i]).f0∧(l[i]).f0≤(m : Int) - 1∧((l[i]).f1.length : Int)=((a+1 : Nat) : Int) - 1 by omega)]
     simp
    ·have h0 : 0 < l.length:=by omega
     refine ev_eq (impl_DecodeMsr.ev_l0 h (by omega) hlm hb hok (l.length - 1) 1 (by omega) (by omega) (fun j hj hj1=>?_)) ?_
     ·have : j=0:=by omega
      subst this
      exact riseAt_yes (by rw [pcN_rd h0];exact (hok 0 h0).1) (.inl rfl)
     ·by_cases h5 : pcOk l m a=true
      ·rw [if_pos h5,if_pos ⟨h,by omega,h5⟩]
      ·rw [if_neg h5,if_neg (fun y=>h5 y.2.2)]
   ·have hex : ∃ j,∃ hj : j < l.length,¬ ((0≤(l[j]).f0∧(l[j]).f0≤(m : Int) - 1)∧(l[j]).f1.length=a):=by
     apply Classical.byContradiction
     intro hn
     exact hok fun j hj=>Classical.byContradiction fun hc=>hn ⟨j,hj,hc⟩
    obtain ⟨j,hj,hbad⟩:=hex
    refine ev_pos ?_ (ev_now ?_)
    ·rw [List.any_eq_true]
     refine ⟨j,List.mem_range.2 hj,?_⟩
     rw [pc_getD hj,decide_eq_false (fun y=>hbad ⟨⟨y.1,y.2.1⟩,by have:=y.2.2;omega⟩)]
     rfl
    ·rw [if_neg]
     intro y
     have hp : pcOk l m a=false:=by
      by_cases c2 : (l[j]).f1.length=a
      ·exact pcOk_no hj (.inl (riseAt_no (fun z=>hbad ⟨by have:=z.1;rw [pcN_rd hj] at this;exact this,c2⟩)))
      ·exact pcOk_no hj (.inr c2)
     rw [hp] at y
     exact absurd y.2.2 (by simp)
 ·rw [if_neg (fun y=>h y.1)]
  refine ev_neg h ?_
  refine Ev.step (fun k=>impl_DecodeMsr.j0.eq_2 _ _ _ _ k) ?_
  exact ev_pos rfl (ev_now rfl)

theorem laws_eqPiece.ev (x : Int) (l : List Int) (hl : l.length≤281474976710656) : Ev (fun k=>laws_eqPiece.f k x l x l) true:=by
 unfold laws_eqPiece.f
 exact ev_pos rfl (ev_bind (laws_eqByteS.ev l hl) (ev_pos rfl (ev_now rfl)))

theorem rd_pc (l : List (S69)) (i : Nat) (h : i < l.length) : rd_T69 l (i : Int)=l[i]:=by unfold rd_T69;simp [List.getD,h]
theorem laws_eqPieceS.ev_l0 (l : List (S69)) (hl : l.length < 4611686018427387904) (hp : ∀ p ∈ l,p.f1.length≤281474976710656) : ∀ (n i : Nat),i+n=l.length→Ev (fun k=>laws_eqPieceS.l0 k l l (i : Int)) true
 | 0,i,hi=>by
  refine Ev.step (fun k=>laws_eqPieceS.l0.eq_2 _ _ _ k) ?_
  exact ev_neg (by omega) (ev_now rfl)
 | n+1,i,hi=>by
  refine Ev.step (fun k=>laws_eqPieceS.l0.eq_2 _ _ _ k) ?_
  refine ev_pos (by omega) (ev_pos (by omega) (ev_pos (by omega) ?_))
  rw [rd_pc l i (by omega),inc (by omega)]
  refine ev_bind (laws_eqPiece.ev _ _ (hp _ (List.getElem_mem _))) (ev_pos rfl ?_)
  exact laws_eqPieceS.ev_l0 l hl hp n (i+1) (by omega)
theorem laws_eqPieceS.ev (l : List (S69)) (hl : l.length≤281474976710656) (hp : ∀ p ∈ l,p.f1.length≤281474976710656) : Ev (fun k=>laws_eqPieceS.f k l l) true:=by
 unfold laws_eqPieceS.f
 exact ev_pos rfl (laws_eqPieceS.ev_l0 l (by omega) hp l.length 0 (by omega))

theorem totPS_map : ∀ l : List (S169),totPS (l.map toPc)=l.length+totPc l
 | []=>rfl
 | p :: l=>by
  have:=totPS_map l
  simp only [List.map_cons,totPS,totPc,List.length_cons,this,toPc]
  omega
theorem decVal_ok (n k : Int) (l : List Pk) : (decVal n k l).1.length≤16:=by
 unfold decVal
 split
 ·rename_i h
  obtain ⟨h1,h2,h3⟩:=h
  obtain ⟨a,m,rfl,rfl,h5⟩:=GoodMsr_nat h1
  simp only [Int.toNat_natCast,Nat.add_sub_cancel]
  have htl : (l.take (a+1)).length=a+1:=by rw [List.length_take];omega
  have hs:=rowsOf_sq (l:=l.take (a+1)) (by omega) (by omega : a≤3) htl
  obtain ⟨o1,o2,o3⟩:=invM_ok hs
  have hrl:=rowsOf_length a (l.take (a+1))
  rw [htl,Nat.mul_comm] at hrl
  have hub:=unk_b (a:=a) (by omega)
  unfold decTail
  split
  ·show (applyM _ _).length≤16
   rw [applyM_length]
   omega
  ·exact Nat.zero_le _
 ·exact Nat.zero_le _
theorem FnExactDecodeMsr : ∀ (n k : Int) (l : List (S169)),((Lit.int .i64 n).wf=true∧(Lit.int .i64 k).wf=true)→(l.length≤maxLen∧∀ x ∈ l,((Lit.int .i64 x.f0).wf=true∧(x.f1.length≤maxLen∧∀ y ∈ x.f1,(Lit.int .u8 y).wf=true)))→laws_FnExactDecodeMsr.Facts n k l:=by
 intro n k l _ hl
 have hsz:=laws_szPieceS.ev l hl.1 (fun x hx=>(hl.2 x hx).2.1)
 by_cases h : (l.length : Int)+(totPc l : Int)≤1048576
 ·rw [if_pos h] at hsz
  have hb : ∀ p ∈ l.map toPc,Bytes p.f1:=fun p hp=>by
   obtain ⟨y,hy,rfl⟩:=List.mem_map.1 hp
   exact Bytes.of_wf (hl.2 y hy).2.2
  have hln : ∀ p ∈ l.map toPc,p.f1.length≤1048576:=fun p hp=>by
   obtain ⟨y,hy,rfl⟩:=List.mem_map.1 hp
   have:=mem_totPc hy
   show y.f1.length≤1048576
   omega
  have hlm : (l.map toPc).length≤1048576:=by rw [List.length_map];omega
  have hto:=laws_toPieceS.ev l (by omega) (fun x hx=>by have:=mem_totPc hx;omega)
  have hs:=spec_DecodeMsr.ev n k (l.map toPc) hlm hb
  have hi:=impl_DecodeMsr.ev n k (l.map toPc) hlm hb
  have hv:=decVal_ok n k (l.map toPc)
  have ht:=totPS_map l
  refine .inr ⟨_,l.map toPc,(decVal n k (l.map toPc)).1,(decVal n k (l.map toPc)).2,Ev.rounds hsz,by omega,by simp only [laws_toMsr.ev],Ev.rounds hto,?_⟩
  generalize decVal n k (l.map toPc)=v at *
  obtain ⟨R,b⟩:=v
  dsimp only at *
  exact ⟨Ev.rounds hs,Ev.rounds hi,Ev.rounds (laws_eqByteS.ev R (by omega)),Ev.rounds (laws_eqPieceS.ev _ (by omega) (fun p hp=>by have:=hln p hp;omega)),Ev.rounds (laws_heldByteS.ev 1 R.length (by decide) (by omega)),
   fun l a h1 h2=>Ev.rounds (laws_markByteS.ev l a h1 h2),⟨by omega,by omega⟩,by omega⟩
 ·rw [if_neg h] at hsz
  exact .inl ⟨_,Ev.rounds hsz,by decide⟩

end Go.Proofs.Ytajikfnpcobnpaa.Pure
-- HALVED
-- SQUEEZED
