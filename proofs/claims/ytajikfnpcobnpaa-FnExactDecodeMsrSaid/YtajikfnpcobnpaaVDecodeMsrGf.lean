/- Plain mathematics: bytes as a field of 256 elements, with sums by exclusive or and products modulo 0x11B; no program stands here. -/
import Derived.RowKit
import Derived.Laws.BitsLemmas
namespace Go.Proofs.Ytajikfnpcobnpaa.Gf
open Go.RowKit
set_option linter.unusedVariables false
set_option linter.unusedSimpArgs false

/-! ### 1. Naturals -/
/-- Times x. -/
def xt (x : Nat) : Nat:=if 2*x > 255 then (2*x) ^^^ 283 else 2*x
/-- n rounds of a product: sum, factor, the other's bits. -/
def T : Nat→Nat→Nat→Nat→Nat
  | 0,o,_,_=>o
  | n+1,o,x,y=>T n (if y % 2=1 then o ^^^ x else o) (xt x) (y / 2)
/-- The product. -/
def gm (a b : Nat) : Nat:=T 8 0 a b

theorem xor_lc (a b c : Nat) : a ^^^ (b ^^^ c)=b ^^^ (a ^^^ c):=by rw [← Nat.xor_assoc,Nat.xor_comm a b,Nat.xor_assoc]
theorem xor_lt {a b : Nat} (ha : a < 256) (hb : b < 256) : a ^^^ b < 256:=Nat.xor_lt_two_pow (n:=8) ha hb
theorem xt_lt {x : Nat} (h : x < 256) : xt x < 256:=by
  have : ∀ x,x < 256→xt x < 256:=by decide +kernel
  exact this x h
theorem T_lt : ∀ (n o x y : Nat),o < 256→x < 256→T n o x y < 256
  | 0,_,_,_,ho,_=>ho
  | n+1,o,x,y,ho,hx=>by
    unfold T
    refine T_lt n _ _ _ ?_ (xt_lt hx)
    split
    · exact xor_lt ho hx
    · exact ho
theorem gm_lt {a : Nat} (b : Nat) (h : a < 256) : gm a b < 256:=T_lt 8 0 a b (by decide) h
theorem T_out : ∀ (n o x y : Nat),T n o x y=o ^^^ T n 0 x y
  | 0,o,_,_=>by simp [T]
  | n+1,o,x,y=>by
    unfold T
    by_cases h : y % 2=1
    · rw [if_pos h,if_pos h,T_out n (o ^^^ x),T_out n (0 ^^^ x),Nat.zero_xor,Nat.xor_assoc]
    · rw [if_neg h,if_neg h,T_out n o]
theorem T_zero : ∀ (n o x : Nat),T n o x 0=o
  | 0,_,_=>rfl
  | n+1,o,x=>by unfold T;rw [if_neg (by decide),Nat.zero_div];exact T_zero n o (xt x)
theorem xor_mod2 (a b : Nat) : (a ^^^ b) % 2=(a % 2+b % 2) % 2:=by
  have h:=Nat.testBit_xor a b 0
  simp only [Nat.testBit_zero] at h
  have h3:=Nat.mod_two_eq_zero_or_one (a ^^^ b)
  rcases Nat.mod_two_eq_zero_or_one a with h1 | h1 <;> rcases Nat.mod_two_eq_zero_or_one b with h2 | h2 <;> rcases h3 with h3 | h3 <;> simp [h1,h2,h3] at h ⊢
theorem xor_half (a b : Nat) : (a ^^^ b) / 2=(a / 2) ^^^ (b / 2):=by
  have:=Nat.shiftRight_xor_distrib (a:=a) (b:=b) (i:=1)
  simpa [Nat.shiftRight_eq_div_pow] using this
theorem T_add_y : ∀ (n x y z : Nat),T n 0 x (y ^^^ z)=T n 0 x y ^^^ T n 0 x z
  | 0,_,_,_=>by simp [T]
  | n+1,x,y,z=>by
    unfold T
    rw [xor_half,T_out n _ _ (y / 2 ^^^ z / 2),T_out n _ _ (y / 2),T_out n _ _ (z / 2),T_add_y n,xor_mod2]
    rcases Nat.mod_two_eq_zero_or_one y with h1 | h1 <;> rcases Nat.mod_two_eq_zero_or_one z with h2 | h2
    · simp [h1,h2]
    · simp only [h1,h2]
      simp only [Nat.reduceAdd,Nat.reduceMod,if_true,Nat.zero_xor,if_neg (by decide : ¬ (0=1))]
      rw [xor_lc]
    · simp [h1,h2,Nat.xor_assoc]
    · simp only [h1,h2]
      simp only [Nat.reduceAdd,Nat.reduceMod,if_true,Nat.zero_xor,if_neg (by decide : ¬ (0=1))]
      rw [Nat.xor_assoc x,xor_lc (T n 0 (xt x) (y / 2)) x,← Nat.xor_assoc x x,Nat.xor_self,Nat.zero_xor]
theorem xt_testBit (x : Nat) (h : x < 256) : xt x=(2*x % 256) ^^^ (if x ≥ 128 then 27 else 0):=by
  have : ∀ x,x < 256→xt x=(2*x % 256) ^^^ (if x ≥ 128 then 27 else 0):=by decide +kernel
  exact this x h
theorem xor_big {x y : Nat} (hx : x < 256) (hy : y < 256) : (x ^^^ y ≥ 128)↔((x ≥ 128)↔¬ (y ≥ 128)):=by
  have e : ∀ z,z < 256→(z ≥ 128↔z.testBit 7=true):=by decide +kernel
  rw [e _ (xor_lt hx hy),e _ hx,e _ hy,Nat.testBit_xor]
  cases x.testBit 7 <;> cases y.testBit 7 <;> decide
theorem two_mul_xor (x y : Nat) : 2*(x ^^^ y)=2*x ^^^ 2*y:=by
  have:=Nat.shiftLeft_xor_distrib (a:=x) (b:=y) (i:=1)
  simpa [Nat.shiftLeft_eq,Nat.mul_comm] using this
theorem xt_add {x y : Nat} (hx : x < 256) (hy : y < 256) : xt (x ^^^ y)=xt x ^^^ xt y:=by
  rw [xt_testBit _ (xor_lt hx hy),xt_testBit _ hx,xt_testBit _ hy,two_mul_xor]
  have hm : (2*x ^^^ 2*y) % 256=(2*x % 256) ^^^ (2*y % 256):=Nat.xor_mod_two_pow (n:=8)
  rw [hm]
  have hb:=xor_big hx hy
  by_cases h1 : x ≥ 128 <;> by_cases h2 : y ≥ 128
  · rw [if_neg (by rw [hb];simp [h1,h2]),if_pos h1,if_pos h2,Nat.xor_assoc _ 27,xor_lc 27,Nat.xor_self];simp
  · rw [if_pos (by rw [hb];simp [h1,h2]),if_pos h1,if_neg h2,Nat.xor_zero,Nat.xor_assoc,Nat.xor_assoc,Nat.xor_comm 27]
  · rw [if_pos (by rw [hb];simp [h1,h2]),if_neg h1,if_pos h2,Nat.xor_zero,Nat.xor_assoc]
  · rw [if_neg (by rw [hb];simp [h1,h2]),if_neg h1,if_neg h2];simp
theorem T_add_x : ∀ (n x y z : Nat),x < 256→y < 256→T n 0 (x ^^^ y) z=T n 0 x z ^^^ T n 0 y z
  | 0,_,_,_,_,_=>by simp [T]
  | n+1,x,y,z,hx,hy=>by
    unfold T
    rw [xt_add hx hy,T_out n _ (xt x ^^^ xt y),T_out n _ (xt x),T_out n _ (xt y),T_add_x n _ _ _ (xt_lt hx) (xt_lt hy)]
    by_cases h : z % 2=1
    · rw [if_pos h,if_pos h,if_pos h]
      simp only [Nat.zero_xor]
      rw [Nat.xor_assoc,Nat.xor_assoc,xor_lc y]
    · rw [if_neg h,if_neg h,if_neg h];simp
theorem gm_add_r (a b c : Nat) : gm a (b ^^^ c)=gm a b ^^^ gm a c:=T_add_y 8 a b c
theorem gm_add_l {a b : Nat} (c : Nat) (ha : a < 256) (hb : b < 256) : gm (a ^^^ b) c=gm a c ^^^ gm b c:=T_add_x 8 a b c ha hb
theorem gm_zero_r (a : Nat) : gm a 0=0:=T_zero 8 0 a
theorem gm_zero_l (b : Nat) : gm 0 b=0:=by
  have h:=gm_add_l (a:=0) (b:=0) b (by decide) (by decide)
  simpa using h

/-- Two additive functions that agree at the powers of two agree at bytes. -/
theorem by_bits {f g : Nat→Nat} (hf : ∀ a b,a < 256→b < 256→f (a ^^^ b)=f a ^^^ f b) (hg : ∀ a b,a < 256→b < 256→g (a ^^^ b)=g a ^^^ g b)
    (h : ∀ i,i < 8→f (2 ^ i)=g (2 ^ i)) : ∀ a,a < 256→f a=g a:=by
  have f0 : f 0=0:=by simpa using hf 0 0 (by decide) (by decide)
  have g0 : g 0=0:=by simpa using hg 0 0 (by decide) (by decide)
  have bit : ∀ (i : Nat) (c : Bool),i < 8→f (if c then 2 ^ i else 0)=g (if c then 2 ^ i else 0):=by
    intro i c hi
    cases c
    · simp [f0,g0]
    · simpa using h i hi
  have lt : ∀ (i : Nat) (c : Bool),i < 8→(if c then 2 ^ i else 0) < 256:=by
    have p8 : ∀ i,i < 8→2 ^ i < 256:=by decide
    intro i c hi
    cases c
    · exact (by decide : 0 < 256)
    · exact p8 i hi
  have split : ∀ a,a < 256→a=(if a.testBit 0 then 2 ^ 0 else 0) ^^^ ((if a.testBit 1 then 2 ^ 1 else 0) ^^^ ((if a.testBit 2 then 2 ^ 2 else 0) ^^^ ((if a.testBit 3 then 2 ^ 3 else 0) ^^^ ((if a.testBit 4 then 2 ^ 4 else 0) ^^^ ((if a.testBit 5 then 2 ^ 5 else 0) ^^^ ((if a.testBit 6 then 2 ^ 6 else 0) ^^^ (if a.testBit 7 then 2 ^ 7 else 0))))))):=by decide +kernel
  intro a ha
  have l0:=lt 0 (a.testBit 0) (by decide)
  have l1:=lt 1 (a.testBit 1) (by decide)
  have l2:=lt 2 (a.testBit 2) (by decide)
  have l3:=lt 3 (a.testBit 3) (by decide)
  have l4:=lt 4 (a.testBit 4) (by decide)
  have l5:=lt 5 (a.testBit 5) (by decide)
  have l6:=lt 6 (a.testBit 6) (by decide)
  have l7:=lt 7 (a.testBit 7) (by decide)
  have k6:=xor_lt l6 l7
  have k5:=xor_lt l5 k6
  have k4:=xor_lt l4 k5
  have k3:=xor_lt l3 k4
  have k2:=xor_lt l2 k3
  have k1:=xor_lt l1 k2
  rw [split a ha,hf _ _ l0 k1,hf _ _ l1 k2,hf _ _ l2 k3,hf _ _ l3 k4,hf _ _ l4 k5,hf _ _ l5 k6,hf _ _ l6 l7,hg _ _ l0 k1,hg _ _ l1 k2,hg _ _ l2 k3,hg _ _ l3 k4,hg _ _ l4 k5,hg _ _ l5 k6,hg _ _ l6 l7,
    bit 0 _ (by decide),bit 1 _ (by decide),bit 2 _ (by decide),bit 3 _ (by decide),bit 4 _ (by decide),bit 5 _ (by decide),bit 6 _ (by decide),bit 7 _ (by decide)]
theorem gm_comm {a b : Nat} (ha : a < 256) (hb : b < 256) : gm a b=gm b a:=by
  have base : ∀ i,i < 8→∀ j,j < 8→gm (2 ^ i) (2 ^ j)=gm (2 ^ j) (2 ^ i):=by decide +kernel
  have p8 : ∀ i,i < 8→2 ^ i < 256:=by decide
  have h1 : ∀ i,i < 8→∀ b,b < 256→gm (2 ^ i) b=gm b (2 ^ i):=fun i hi =>
    by_bits (fun a b _ _=>gm_add_r _ a b) (fun a b ha hb=>gm_add_l _ ha hb) (fun j hj=>base i hi j hj)
  exact by_bits (f:=fun a=>gm a b) (g:=fun a=>gm b a) (fun x y hx hy=>gm_add_l _ hx hy) (fun x y _ _=>gm_add_r _ x y) (fun i hi=>h1 i hi b hb) a ha
theorem gm_assoc {a b c : Nat} (ha : a < 256) (hb : b < 256) (hc : c < 256) : gm (gm a b) c=gm a (gm b c):=by
  have base : ∀ i,i < 8→∀ j,j < 8→∀ k,k < 8→gm (gm (2 ^ i) (2 ^ j)) (2 ^ k)=gm (2 ^ i) (gm (2 ^ j) (2 ^ k)):=by decide +kernel
  have p8 : ∀ i,i < 8→2 ^ i < 256:=by decide
  have h1 : ∀ i,i < 8→∀ j,j < 8→∀ c,c < 256→gm (gm (2 ^ i) (2 ^ j)) c=gm (2 ^ i) (gm (2 ^ j) c):=fun i hi j hj =>
    by_bits (fun a b _ _=>gm_add_r _ a b) (fun a b _ _=>by simp only [gm_add_r]) (fun k hk=>base i hi j hj k hk)
  have h2 : ∀ i,i < 8→∀ b,b < 256→gm (gm (2 ^ i) b) c=gm (2 ^ i) (gm b c):=fun i hi =>
    by_bits (f:=fun b=>gm (gm (2 ^ i) b) c) (g:=fun b=>gm (2 ^ i) (gm b c)) (fun x y hx hy=>by simp only [gm_add_r];exact gm_add_l _ (gm_lt _ (p8 i hi)) (gm_lt _ (p8 i hi)))
      (fun x y hx hy=>by simp only [gm_add_l c hx hy,gm_add_r]) (fun j hj=>h1 i hi j hj c hc)
  exact by_bits (f:=fun a=>gm (gm a b) c) (g:=fun a=>gm a (gm b c)) (fun x y hx hy=>by simp only [gm_add_l b hx hy];exact gm_add_l _ (gm_lt _ hx) (gm_lt _ hy))
    (fun x y hx hy=>gm_add_l _ hx hy) (fun i hi=>h2 i hi b hb) a ha
theorem gm_one_r {a : Nat} (ha : a < 256) : gm a 1=a:=by
  have : ∀ a,a < 256→gm a 1=a:=by decide +kernel
  exact this a ha
/-- Powers: the product of n equal factors, the last one laid last. -/
def gp (a : Nat) : Nat→Nat
  | 0=>1
  | n+1=>gm (gp a n) a
theorem gp_lt {a : Nat} (h : a < 256) : ∀ n,gp a n < 256
  | 0=>(by decide : 1 < 256)
  | n+1=>gm_lt _ (gp_lt h n)
theorem gp_add {a : Nat} (h : a < 256) (m : Nat) : ∀ n,gp a (m+n)=gm (gp a m) (gp a n)
  | 0=>(gm_one_r (gp_lt h m)).symm
  | n+1=>by
    show gm (gp a (m+n)) a=gm (gp a m) (gm (gp a n) a)
    rw [gp_add h m n,gm_assoc (gp_lt h m) (gp_lt h n) h]
theorem gp_mul {a : Nat} (h : a < 256) (m : Nat) : ∀ n,gp a (m*n)=gp (gp a m) n
  | 0=>rfl
  | n+1=>by
    rw [Nat.mul_succ,gp_add h,gp_mul h m n];rfl
theorem gp_zero_pos : ∀ n,0 < n→gp 0 n=0
  | 0,h=>absurd h (by decide)
  | n+1,_=>gm_zero_r _
/-- The inverse; of 0 it is 0. -/
def gi (a : Nat) : Nat:=gp a 254
theorem gi_lt {a : Nat} (h : a < 256) : gi a < 256:=gp_lt h 254
theorem gi_zero : gi 0=0:=gp_zero_pos 254 (by decide)
/-! ### 2. The same of Go's whole numbers -/
/-- A byte. -/
def Byte (a : Int) : Prop:=0≤a∧a < 256
/-- A list of bytes. -/
def Bytes (l : List Int) : Prop:=∀ x ∈ l,Byte x
theorem Byte.of_wf {a : Int} (h : (Lit.int .u8 a).wf=true) : Byte a:=by
  simp only [Lit.wf,IntKind.min,IntKind.max,IntKind.signed,IntKind.bits,Bool.and_eq_true] at h
  unfold Byte
  simp at h
  omega
theorem Bytes.of_wf {l : List Int} (h : ∀ x ∈ l,(Lit.int .u8 x).wf=true) : Bytes l:=fun x hx=>.of_wf (h x hx)
def gx (a b : Int) : Int:=((a.toNat ^^^ b.toNat : Nat) : Int)
def mul (a b : Int) : Int:=((gm a.toNat b.toNat : Nat) : Int)
def pow (a : Int) (n : Nat) : Int:=((gp a.toNat n : Nat) : Int)
def inv (a : Int) : Int:=((gi a.toNat : Nat) : Int)
theorem Byte.nat {a : Int} (h : Byte a) : ∃ n : Nat,n < 256∧a=n:=⟨a.toNat,by unfold Byte at h;omega,by unfold Byte at h;omega⟩
theorem Byte.toNat_lt {a : Int} (h : Byte a) : a.toNat < 256:=by unfold Byte at h;omega
theorem Byte.cast {n : Nat} (h : n < 256) : Byte (n : Int):=⟨by omega,by omega⟩
theorem Byte.zero : Byte 0:=⟨by decide,by decide⟩
theorem Byte.one : Byte 1:=⟨by decide,by decide⟩
theorem Byte.gx {a b : Int} (ha : Byte a) (hb : Byte b) : Byte (gx a b):=.cast (xor_lt ha.toNat_lt hb.toNat_lt)
theorem Byte.mul {a : Int} (ha : Byte a) (b : Int) : Byte (mul a b):=.cast (gm_lt _ ha.toNat_lt)
theorem Byte.pow {a : Int} (ha : Byte a) (n : Nat) : Byte (pow a n):=.cast (gp_lt ha.toNat_lt n)
theorem Byte.inv {a : Int} (ha : Byte a) : Byte (inv a):=.cast (gi_lt ha.toNat_lt)
theorem gx_comm (a b : Int) : gx a b=gx b a:=by unfold gx;rw [Nat.xor_comm]
theorem gx_assoc (a b c : Int) : gx (gx a b) c=gx a (gx b c):=by unfold gx;simp only [Int.toNat_natCast];rw [Nat.xor_assoc]
theorem gx_zero {a : Int} (h : Byte a) : gx a 0=a:=by unfold gx Byte at *;simp;omega
theorem zero_gx {a : Int} (h : Byte a) : gx 0 a=a:=by rw [gx_comm];exact gx_zero h
theorem mul_comm {a b : Int} (ha : Byte a) (hb : Byte b) : mul a b=mul b a:=by unfold mul;rw [gm_comm ha.toNat_lt hb.toNat_lt]
theorem mul_assoc {a b c : Int} (ha : Byte a) (hb : Byte b) (hc : Byte c) : mul (mul a b) c=mul a (mul b c):=by
  unfold mul;simp only [Int.toNat_natCast];rw [gm_assoc ha.toNat_lt hb.toNat_lt hc.toNat_lt]
theorem mul_zero (a : Int) : mul a 0=0:=by unfold mul;simp [gm_zero_r]
theorem zero_mul (a : Int) : mul 0 a=0:=by unfold mul;simp [gm_zero_l]
theorem mul_one {a : Int} (h : Byte a) : mul a 1=a:=by
  obtain ⟨n,hn,rfl⟩:=h.nat
  unfold mul
  simp [gm_one_r hn]
theorem one_mul {a : Int} (h : Byte a) : mul 1 a=a:=(mul_comm .one h).trans (mul_one h)
theorem inv_zero : inv 0=0:=by unfold inv;simp [gi_zero]
theorem pow_zero (a : Int) : pow a 0=1:=rfl
theorem pow_succ (a : Int) (n : Nat) : pow a (n+1)=mul (pow a n) a:=by unfold pow mul;simp [gp]
theorem pow_add {a : Int} (h : Byte a) (m n : Nat) : pow a (m+n)=mul (pow a m) (pow a n):=by unfold pow mul;simp only [Int.toNat_natCast];rw [gp_add h.toNat_lt]
theorem pow_mul {a : Int} (h : Byte a) (m n : Nat) : pow a (m*n)=pow (pow a m) n:=by unfold pow;simp only [Int.toNat_natCast];rw [gp_mul h.toNat_lt]
theorem pow_one {a : Int} (h : Byte a) : pow a 1=a:=by rw [pow_succ,pow_zero,one_mul h]
theorem pow_two {a : Int} (h : Byte a) : pow a 2=mul a a:=by rw [pow_succ,pow_one h]
theorem inv_pow (a : Int) : inv a=pow a 254:=rfl

/-! ### 3. Go's operations -/
theorem xor_u8 {a b : Int} (ha : Byte a) (hb : Byte b) : Go.bits .xor .u8 a b=gx a b:=by
  obtain ⟨m,hm,rfl⟩:=ha.nat
  obtain ⟨n,hn,rfl⟩:=hb.nat
  have:=xor_lt hm hn
  show IntKind.u8.wrap ((BitVec.ofInt 8 (m : Int) ^^^ BitVec.ofInt 8 (n : Int)).toNat : Int)=_
  rw [BitVec.ofInt_natCast,BitVec.ofInt_natCast,BitVec.toNat_xor,BitVec.toNat_ofNat,BitVec.toNat_ofNat,Nat.mod_eq_of_lt (a:=m) (by omega),Nat.mod_eq_of_lt (a:=n) (by omega),IntKind.wrap_u8]
  unfold gx
  simp only [Int.toNat_natCast]
  omega
theorem xor_i64 {m n : Nat} (hm : m < 512) (hn : n < 512) : Go.bits .xor .i64 (m : Int) (n : Int)=((m ^^^ n : Nat) : Int):=by
  have : m ^^^ n < 512:=Nat.xor_lt_two_pow (n:=9) hm hn
  show IntKind.i64.wrap ((BitVec.ofInt 64 (m : Int) ^^^ BitVec.ofInt 64 (n : Int)).toNat : Int)=_
  rw [BitVec.ofInt_natCast,BitVec.ofInt_natCast,BitVec.toNat_xor,BitVec.toNat_ofNat,BitVec.toNat_ofNat,Nat.mod_eq_of_lt (a:=m) (by omega),Nat.mod_eq_of_lt (a:=n) (by omega),IntKind.wrap_i64]
  omega
theorem and1_i64 {m : Nat} (hm : m < 4294967296) : Go.bits .and .i64 (m : Int) 1=((m % 2 : Nat) : Int):=by
  have e : (1 : Int)=((1 : Nat) : Int):=rfl
  rw [e]
  show IntKind.i64.wrap ((BitVec.ofInt 64 (m : Int) &&& BitVec.ofInt 64 ((1 : Nat) : Int)).toNat : Int)=_
  rw [BitVec.ofInt_natCast,BitVec.ofInt_natCast,BitVec.toNat_and,BitVec.toNat_ofNat,BitVec.toNat_ofNat,Nat.mod_eq_of_lt (a:=m) (by omega),Nat.mod_eq_of_lt (a:=1) (by decide),Nat.and_one_is_mod,IntKind.wrap_i64]
  omega
theorem and1_u8 {m : Nat} (hm : m < 256) : Go.bits .and .u8 (m : Int) 1=((m % 2 : Nat) : Int):=by
  have e : (1 : Int)=((1 : Nat) : Int):=rfl
  rw [e]
  show IntKind.u8.wrap ((BitVec.ofInt 8 (m : Int) &&& BitVec.ofInt 8 ((1 : Nat) : Int)).toNat : Int)=_
  rw [BitVec.ofInt_natCast,BitVec.ofInt_natCast,BitVec.toNat_and,BitVec.toNat_ofNat,BitVec.toNat_ofNat,Nat.mod_eq_of_lt (a:=m) (by omega),Nat.mod_eq_of_lt (a:=1) (by decide),Nat.and_one_is_mod,IntKind.wrap_u8]
  omega
theorem wrap_id {i : Int} (h : 0≤i) (h1 : i < 9223372036854775808) : wrap64 i=i:=by unfold wrap64;omega
end Go.Proofs.Ytajikfnpcobnpaa.Gf
-- SQUEEZED
