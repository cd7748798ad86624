/- The given program's Interpolate returns what the reference's Interpolate returns, for all shares and bytes, and leaves the shares as they were; there is no condition. -/
import Derived.Test.YthadpdoefhldnaaPFnExactInterpolatex3
import Derived.Test.YthadpdoefhldnaaKit
namespace Go.Proofs.Ythadpdoefhldnaa.Pure
open Go.RowKit Go.Proofs.Ythadpdoefhldnaa.PFnExactInterpolate Go.Proofs.YthadpdoefhldnaaW.PrintWords Go.Proofs.YthadpdoefhldnaaW.PrintLast Go.Proofs.Ythadpdoefhldnaa.Gf Go.Proofs.Ythadpdoefhldnaa.Kit
set_option linter.unusedVariables false
set_option linter.unusedSimpArgs false

theorem laws_szShareS.ev (l : List (S118)) (hl : l.length ≤ maxLen) : laws_szShareS.f l 1048576 = some (if l.length ≤ 1048576 then 1048576 - (l.length : Int) else -1) := by
  unfold laws_szShareS.f
  unfold maxLen at hl
  have e : wrap64 (1048576 - (l.length : Int)) = 1048576 - (l.length : Int) := by unfold wrap64; omega
  rw [e]
  by_cases h : l.length ≤ 1048576
  · rw [if_neg (by omega), if_pos h]
  · rw [if_pos (by omega), if_neg h]

theorem laws_toShare.ev (x y : Int) : laws_toShare.f x y = some (x, y) := rfl

def toSh (x : S118) : S116 := ⟨x.f0, x.f1⟩
theorem laws_toShareS.ev_l0 (l : List (S118)) (hl : l.length < 4611686018427387904) : ∀ (n i : Nat) (o : List (S116)), i + n = l.length → o.length = l.length → o.take i = (l.map toSh).take i →
    Ev (fun k => laws_toShareS.l0 k l o (i : Int)) (l.map toSh)
  | 0, i, o, hi, ho, ht => by
    refine Ev.step (fun k => laws_toShareS.l0.eq_2 _ _ _ k) ?_
    refine ev_neg (by omega) (ev_now ?_)
    rw [List.take_of_length_le (by omega), List.take_of_length_le (by simp; omega)] at ht
    exact ht
  | n + 1, i, o, hi, ho, ht => by
    refine Ev.step (fun k => laws_toShareS.l0.eq_2 _ _ _ k) ?_
    simp only [laws_toShare.ev, Option.bind_some]
    refine ev_pos (by omega) (ev_pos (by omega) (ev_pos (by omega) ?_))
    rw [inc (by omega), Int.toNat_natCast]
    refine laws_toShareS.ev_l0 l hl n (i + 1) _ (by omega) (by simpa using ho) ?_
    rw [List.take_succ_eq_append_getElem (by simp; omega), List.take_succ_eq_append_getElem (by simp; omega), ← ht]
    have e : rd_T118 l (i : Int) = l[i]'(by omega) := by unfold rd_T118; simp [List.getD, show i < l.length by omega]
    simp [e, toSh, List.take_set_of_le]
theorem laws_toShareS.ev (l : List (S118)) (hl : l.length ≤ 1048576) : Ev (fun k => laws_toShareS.f k l) (l.map toSh) := by
  unfold laws_toShareS.f
  refine ev_pos (by omega) (ev_pos (by omega) ?_)
  exact laws_toShareS.ev_l0 l (by omega) l.length 0 _ (by omega) (by simp) rfl

theorem laws_eqShare.ev (x y : Int) : laws_eqShare.f x y x y = some true := by
  unfold laws_eqShare.f
  rw [if_pos rfl, if_pos rfl]

theorem laws_eqShareS.ev_l0 (l : List (S116)) (hl : l.length < 4611686018427387904) : ∀ (n i : Nat), i + n = l.length → Ev (fun k => laws_eqShareS.l0 k l l (i : Int)) true
  | 0, i, hi => by
    refine Ev.step (fun k => laws_eqShareS.l0.eq_2 _ _ _ k) ?_
    exact ev_neg (by omega) (ev_now rfl)
  | n + 1, i, hi => by
    refine Ev.step (fun k => laws_eqShareS.l0.eq_2 _ _ _ k) ?_
    simp only [laws_eqShare.ev, Option.bind_some]
    refine ev_pos (by omega) (ev_pos (by omega) (ev_pos (by omega) (ev_pos (by trivial) ?_)))
    rw [inc (by omega)]
    exact laws_eqShareS.ev_l0 l hl n (i + 1) (by omega)
theorem laws_eqShareS.ev (l : List (S116)) (hl : l.length ≤ 281474976710656) : Ev (fun k => laws_eqShareS.f k l l) true := by
  unfold laws_eqShareS.f
  exact ev_pos rfl (laws_eqShareS.ev_l0 l (by omega) l.length 0 (by omega))

theorem spec_l7Shares.X_eq (l : List (S116)) (i : Nat) : (rd_T116 l (i : Int)).f0 = (l.getD i z116).f0 := by unfold rd_T116; simp
theorem spec_l7Shares.ev_l0 (l : List (S116)) (hl : l.length < 4611686018427387904) : ∀ (n i : Nat), i + n = l.length → Ev (fun k => spec_l7Shares.l0 k l l (l.length : Int) (i : Int)) (sharesOk (fun j => (l.getD j z116).f0) l.length i n)
  | 0, i, hi => by
    refine Ev.step (fun k => spec_l7Shares.l0.eq_2 _ _ _ _ k) ?_
    refine ev_neg (by omega) (ev_now ?_)
    simp only [sharesOk]
    rw [decide_eq_decide]
    omega
  | n + 1, i, hi => by
    refine Ev.step (fun k => spec_l7Shares.l0.eq_2 _ _ _ _ k) ?_
    refine ev_pos (by omega) (ev_pos (by omega) (ev_pos (by omega) ?_))
    have e1 : wrap64 ((i : Int) - 1) = (i : Int) - 1 := dec (by omega)
    rw [spec_l7Shares.X_eq, inc (by omega), e1]
    have ih := spec_l7Shares.ev_l0 l hl n (i + 1) (by omega)
    simp only [sharesOk]
    by_cases h0 : (l.getD i z116).f0 = 0
    · exact ev_pos h0 (ev_now (by rw [if_pos (Or.inl h0)]))
    · refine ev_neg h0 ?_
      by_cases hi0 : 0 < i
      · refine ev_pos (by omega) (ev_pos (by omega) (ev_pos (by omega) ?_))
        have e2 : ((i : Int) - 1) = ((i - 1 : Nat) : Int) := by omega
        rw [e2, spec_l7Shares.X_eq]
        by_cases h2 : (l.getD i z116).f0 ≤ (l.getD (i - 1) z116).f0
        · exact ev_pos h2 (ev_now (by rw [if_pos (Or.inr ⟨hi0, h2⟩)]))
        · refine ev_neg h2 (ev_eq ih ?_)
          rw [if_neg (by rintro (h | ⟨_, h⟩); exact h0 h; exact h2 h)]
      · refine ev_neg (by omega) (ev_eq ih ?_)
        rw [if_neg (by rintro (h | ⟨h, _⟩); exact h0 h; exact hi0 h)]
theorem spec_l7Shares.ev (l : List (S116)) (hl : l.length < 4611686018427387904) : Ev (fun k => spec_l7Shares.f k l) (sharesOk (fun j => (l.getD j z116).f0) l.length 0 l.length) := by
  unfold spec_l7Shares.f
  exact spec_l7Shares.ev_l0 l hl l.length 0 (by omega)

theorem spec_l1Times.ev_l0 : ∀ (n o x y : Nat), y < 2 ^ n → n ≤ 8 → o < 256 → x < 256 →
    Ev (fun k => spec_l1Times.l0 k (o : Int) (x : Int) (y : Int)) ((T n o x y : Nat) : Int)
  | 0, o, x, y, hy, _, ho, hx => by
    refine Ev.step (fun k => spec_l1Times.l0.eq_2 _ _ _ k) ?_
    have : y = 0 := by simpa using hy
    subst this
    refine ev_neg (by decide) (ev_now ?_)
    simp only [T]
    omega
  | n + 1, o, x, y, hy, hn, ho, hx => by
    have hy8 : y < 256 := Nat.lt_of_lt_of_le hy (Nat.pow_le_pow_right (n := 2) (by decide) hn)
    by_cases h0 : y = 0
    · subst h0
      refine Ev.step (fun k => spec_l1Times.l0.eq_2 _ _ _ k) ?_
      refine ev_neg (by decide) (ev_now ?_)
      rw [T_zero]
      omega
    refine Ev.step (fun k => spec_l1Times.l0.eq_2 _ _ _ k) ?_
    refine ev_pos (by omega) ?_
    have e2 : wrap64 ((x : Int) * 2) = ((2 * x : Nat) : Int) := by rw [wrap_id (by omega) (by omega)]; omega
    have e3 : ((y : Int) / 2) = ((y / 2 : Nat) : Int) := by omega
    have e4 : Go.bits .xor .i64 (o : Int) (x : Int) = ((o ^^^ x : Nat) : Int) := xor_i64 (by omega) (by omega)
    have e5 : Go.bits .xor .i64 ((2 * x : Nat) : Int) 283 = ((2 * x ^^^ 283 : Nat) : Int) := xor_i64 (m := 2 * x) (n := 283) (by omega) (by omega)
    rw [and1_i64 (by omega), e2, e3, e4, e5]
    have hT : T (n + 1) o x y = T n (if y % 2 = 1 then o ^^^ x else o) (xt x) (y / 2) := by rw [T]
    rw [hT]
    have hxt := xt_lt hx
    have hox := xor_lt ho hx
    have hh : y / 2 < 2 ^ n := by rw [Nat.pow_succ] at hy; omega
    by_cases h1 : y % 2 = 1
    · rw [if_pos h1]
      refine ev_pos (by omega) ?_
      by_cases h2 : 2 * x > 255
      · refine ev_pos (by omega) ?_
        have : xt x = 2 * x ^^^ 283 := by unfold xt; rw [if_pos h2]
        rw [this] at hxt ⊢
        exact spec_l1Times.ev_l0 n _ _ _ hh (by omega) hox hxt
      · refine ev_neg (by omega) ?_
        have : xt x = 2 * x := by unfold xt; rw [if_neg h2]
        rw [this] at hxt ⊢
        exact spec_l1Times.ev_l0 n _ _ _ hh (by omega) hox hxt
    · rw [if_neg h1]
      refine ev_neg (by omega) ?_
      by_cases h2 : 2 * x > 255
      · refine ev_pos (by omega) ?_
        have : xt x = 2 * x ^^^ 283 := by unfold xt; rw [if_pos h2]
        rw [this] at hxt ⊢
        exact spec_l1Times.ev_l0 n _ _ _ hh (by omega) ho hxt
      · refine ev_neg (by omega) ?_
        have : xt x = 2 * x := by unfold xt; rw [if_neg h2]
        rw [this] at hxt ⊢
        exact spec_l1Times.ev_l0 n _ _ _ hh (by omega) ho hxt
theorem spec_l1Times.ev {a b : Int} (ha : Byte a) (hb : Byte b) : Ev (fun k => spec_l1Times.f k a b) (mul a b) := by
  obtain ⟨m, hm, rfl⟩ := ha.nat
  obtain ⟨n, hn, rfl⟩ := hb.nat
  unfold spec_l1Times.f
  rw [wrap_id (i := (m : Int)) (by omega) (by omega), wrap_id (i := (n : Int)) (by omega) (by omega)]
  have h := spec_l1Times.ev_l0 8 0 m n hn (Nat.le_refl _) (by decide) hm
  exact ev_eq h (by unfold Gf.mul gm; simp)

theorem spec_l1Power.ev_l0 (a : Int) (ha : Byte a) : ∀ (n m : Nat), n < 4611686018427387904 → Ev (fun k => spec_l1Power.l0 k a (n : Int) (pow a m)) (pow a (m + n))
  | 0, m, _ => by
    refine Ev.step (fun k => spec_l1Power.l0.eq_2 _ _ _ k) ?_
    exact ev_neg (by omega) (ev_now rfl)
  | n + 1, m, hn => by
    refine Ev.step (fun k => spec_l1Power.l0.eq_2 _ _ _ k) ?_
    refine ev_pos (by omega) ?_
    refine ev_bind (spec_l1Times.ev (Byte.pow ha m) ha) ?_
    have e : wrap64 (((n + 1 : Nat) : Int) - 1) = (n : Int) := by unfold wrap64; omega
    rw [e, ← pow_succ]
    refine ev_eq (spec_l1Power.ev_l0 a ha n (m + 1) (by omega)) ?_
    rw [Nat.add_right_comm, Nat.add_assoc]
theorem spec_l1Power.ev {a : Int} (ha : Byte a) (n : Nat) (hn : n < 4611686018427387904) : Ev (fun k => spec_l1Power.f k a (n : Int)) (pow a n) := by
  unfold spec_l1Power.f
  have := spec_l1Power.ev_l0 a ha n 0 hn
  rw [pow_zero, Nat.zero_add] at this
  exact this

theorem spec_l1Inverse.ev {a : Int} (ha : Byte a) : Ev (fun k => spec_l1Inverse.f k a) (inv a) := by
  unfold spec_l1Inverse.f
  by_cases h : a = 0
  · subst h
    exact ev_pos rfl (ev_now inv_zero.symm)
  · exact ev_neg h (ev_bind (spec_l1Power.ev ha 254 (by decide)) (ev_now (inv_pow a).symm))

def shX (l : List (S116)) (j : Nat) : Int := (l.getD j z116).f0
def shY (l : List (S116)) (j : Nat) : Int := (l.getD j z116).f1
theorem rd_X (l : List (S116)) (i : Nat) : (rd_T116 l (i : Int)).f0 = shX l i := by unfold rd_T116 shX; simp
theorem rd_Y (l : List (S116)) (i : Nat) : (rd_T116 l (i : Int)).f1 = shY l i := by unfold rd_T116 shY; simp
def ShBytes (l : List (S116)) : Prop := ∀ j, j < l.length → Byte (shX l j) ∧ Byte (shY l j)
def termOf (l : List (S116)) (x : Int) (i : Nat) : Int := mul (shY l i) (mul (prodBut x (shX l) i l.length) (inv (prodBut (shX l i) (shX l) i l.length)))
def throughOf (l : List (S116)) (x : Int) : Int := sumOver (termOf l x) l.length
theorem termOf_byte {l : List (S116)} (hl : ShBytes l) (x : Int) {i : Nat} (hi : i < l.length) : Byte (termOf l x i) := Byte.mul (hl i hi).2 _
theorem spec_l7Through.ev_l1 (l : List (S116)) (x : Int) (hl : ShBytes l) (hx : Byte x) (hs : l.length ≤ 1048576) (acc : Int) (i : Nat) (hi : i < l.length) (R : Int)
    (hR : Ev (fun k => spec_l7Through.l0 k l x (gx acc (termOf l x i)) l (l.length : Int) ((i + 1 : Nat) : Int)) R) (ha : Byte acc) : ∀ (n j : Nat), j + n = l.length →
    Ev (fun k => spec_l7Through.l1 k l x acc (i : Int) (prodBut x (shX l) i j) (prodBut (shX l i) (shX l) i j) l (l.length : Int) (i : Int) l (l.length : Int) (j : Int) (shX l i) (shY l i)) R
  | 0, j, hj => by
    have bU := prodBut_byte (X := shX l) hx i l.length (fun q hq => (hl q hq).1)
    have bD := prodBut_byte (X := shX l) (hl i hi).1 i l.length (fun q hq => (hl q hq).1)
    obtain rfl : j = l.length := by omega
    refine Ev.step (fun k => spec_l7Through.l1.eq_2 _ _ _ _ _ _ _ _ _ _ _ _ _ _ k) ?_
    refine ev_neg (by omega) ?_
    refine ev_bind (spec_l1Inverse.ev bD) (ev_bind (spec_l1Times.ev bU bD.inv) (ev_bind (spec_l1Times.ev (hl i hi).2 (Byte.mul bU _)) ?_))
    rw [xor_u8 ha (Byte.mul (hl i hi).2 _), inc (by omega)]
    exact hR
  | n + 1, j, hj => by
    have hjl : j < l.length := by omega
    have bU := prodBut_byte (X := shX l) hx i j (fun q hq => (hl q (by omega)).1)
    have bD := prodBut_byte (X := shX l) (hl i hi).1 i j (fun q hq => (hl q (by omega)).1)
    have ih := spec_l7Through.ev_l1 l x hl hx hs acc i hi R hR ha n (j + 1) (by omega)
    refine Ev.step (fun k => spec_l7Through.l1.eq_2 _ _ _ _ _ _ _ _ _ _ _ _ _ _ k) ?_
    refine ev_pos (by omega) (ev_pos (by omega) (ev_pos (by omega) ?_))
    rw [inc (by omega), rd_X]
    by_cases e : j = i
    · refine ev_pos (by omega) ?_
      rw [prodBut, prodBut, if_pos e, if_pos e] at ih
      exact ih
    · refine ev_neg (by omega) ?_
      rw [prodBut, prodBut, if_neg e, if_neg e] at ih
      rw [xor_u8 hx (hl j hjl).1, xor_u8 (hl i hi).1 (hl j hjl).1]
      exact ev_bind (spec_l1Times.ev bU (Byte.gx hx (hl j hjl).1)) (ev_bind (spec_l1Times.ev bD (Byte.gx (hl i hi).1 (hl j hjl).1)) ih)
theorem spec_l7Through.ev_l0 (l : List (S116)) (x : Int) (hl : ShBytes l) (hx : Byte x) (hs : l.length ≤ 1048576) : ∀ (n i : Nat), i + n = l.length →
    Ev (fun k => spec_l7Through.l0 k l x (sumOver (termOf l x) i) l (l.length : Int) (i : Int)) (throughOf l x)
  | 0, i, hi => by
    obtain rfl : i = l.length := by omega
    refine Ev.step (fun k => spec_l7Through.l0.eq_2 _ _ _ _ _ _ k) ?_
    exact ev_neg (by omega) (ev_now rfl)
  | n + 1, i, hi => by
    refine Ev.step (fun k => spec_l7Through.l0.eq_2 _ _ _ _ _ _ k) ?_
    refine ev_pos (by omega) (ev_pos (by omega) (ev_pos (by omega) ?_))
    rw [rd_X, rd_Y]
    have bs := sumOver_byte (f := termOf l x) i (fun j hj => termOf_byte hl x (by omega))
    exact spec_l7Through.ev_l1 l x hl hx hs _ i (by omega) _ (spec_l7Through.ev_l0 l x hl hx hs n (i + 1) (by omega)) bs l.length 0 (by omega)
theorem spec_l7Through.ev {l : List (S116)} {x : Int} (hl : ShBytes l) (hx : Byte x) (hs : l.length ≤ 1048576) : Ev (fun k => spec_l7Through.f k l x) (throughOf l x) := by
  unfold spec_l7Through.f
  exact spec_l7Through.ev_l0 l x hl hx hs l.length 0 (by omega)

def interVal (l : List (S116)) (x : Int) : Int × Bool := if sharesOk (fun j => (l.getD j z116).f0) l.length 0 l.length = true ∧ l ≠ [] then (throughOf l x, true) else (0, false)
theorem spec_Interpolate.ev {l : List (S116)} {x : Int} (hl : ShBytes l) (hx : Byte x) (hs : l.length ≤ 1048576) : Ev (fun k => spec_Interpolate.f k l x) (interVal l x) := by
  unfold spec_Interpolate.f interVal
  refine ev_bind (spec_l7Shares.ev l (by omega)) ?_
  by_cases h : sharesOk (fun j => (l.getD j z116).f0) l.length 0 l.length = true
  · refine ev_pos h ?_
    by_cases h2 : l = []
    · subst h2
      exact ev_eq (ev_pos rfl (ev_now rfl)) (if_neg (fun z => z.2 rfl)).symm
    · refine ev_eq (ev_neg ?_ (ev_bind (spec_l7Through.ev hl hx hs) (ev_now rfl))) (if_pos ⟨h, h2⟩).symm
      have := List.length_pos_iff.2 h2
      omega
  · exact ev_eq (ev_neg h (ev_now rfl)) (if_neg (fun z => h z.1)).symm

theorem impl_areShares.X_eq (l : List (S116)) (i : Nat) : (rd_T116 l (i : Int)).f0 = (l.getD i z116).f0 := by unfold rd_T116; simp
theorem impl_areShares.ev_l0 (l : List (S116)) (hl : l.length < 4611686018427387904) : ∀ (n i : Nat), i + n = l.length → Ev (fun k => impl_areShares.l0 k l l (l.length : Int) (i : Int)) (sharesOk (fun j => (l.getD j z116).f0) l.length i n)
  | 0, i, hi => by
    refine Ev.step (fun k => impl_areShares.l0.eq_2 _ _ _ _ k) ?_
    refine ev_neg (by omega) (ev_now ?_)
    simp only [sharesOk]
    rw [decide_eq_decide]
    omega
  | n + 1, i, hi => by
    refine Ev.step (fun k => impl_areShares.l0.eq_2 _ _ _ _ k) ?_
    refine ev_pos (by omega) (ev_pos (by omega) (ev_pos (by omega) ?_))
    have e1 : wrap64 ((i : Int) - 1) = (i : Int) - 1 := dec (by omega)
    rw [impl_areShares.X_eq, inc (by omega), e1]
    have ih := impl_areShares.ev_l0 l hl n (i + 1) (by omega)
    simp only [sharesOk]
    by_cases h0 : (l.getD i z116).f0 = 0
    · exact ev_pos h0 (ev_now (by rw [if_pos (Or.inl h0)]))
    · refine ev_neg h0 ?_
      by_cases hi0 : 0 < i
      · refine ev_pos (by omega) (ev_pos (by omega) (ev_pos (by omega) ?_))
        have e2 : ((i : Int) - 1) = ((i - 1 : Nat) : Int) := by omega
        rw [e2, impl_areShares.X_eq]
        by_cases h2 : (l.getD i z116).f0 ≤ (l.getD (i - 1) z116).f0
        · exact ev_pos h2 (ev_now (by rw [if_pos (Or.inr ⟨hi0, h2⟩)]))
        · refine ev_neg h2 (ev_eq ih ?_)
          rw [if_neg (by rintro (h | ⟨_, h⟩); exact h0 h; exact h2 h)]
      · refine ev_neg (by omega) (ev_eq ih ?_)
        rw [if_neg (by rintro (h | ⟨h, _⟩); exact h0 h; exact hi0 h)]
theorem impl_areShares.ev (l : List (S116)) (hl : l.length < 4611686018427387904) : Ev (fun k => impl_areShares.f k l) (sharesOk (fun j => (l.getD j z116).f0) l.length 0 l.length) := by
  unfold impl_areShares.f
  exact impl_areShares.ev_l0 l hl l.length 0 (by omega)

theorem impl_Times.ev_l0 (b : Nat) (hb : b < 256) : ∀ (n i o x : Nat), i + n = 8 → o < 256 → x < 256 →
    Ev (fun k => impl_Times.l0 k (b : Int) (o : Int) (i : Int) (x : Int)) ((T n o x (b / 2 ^ i) : Nat) : Int)
  | 0, i, o, x, hi, ho, hx => by
    refine Ev.step (fun k => impl_Times.l0.eq_2 _ _ _ _ k) ?_
    refine ev_neg (by omega) (ev_now ?_)
    simp only [T]
    omega
  | n + 1, i, o, x, hi, ho, hx => by
    refine Ev.step (fun k => impl_Times.l0.eq_2 _ _ _ _ k) ?_
    refine ev_pos (by omega) (ev_pos (by omega) ?_)
    have e1 : shr .u8 (b : Int) (i : Int) = ((b / 2 ^ i : Nat) : Int) := by
      unfold shr
      rw [Nat.min_eq_left (by simp only [IntKind.bits]; omega)]
      simp
    have hd : b / 2 ^ i < 256 := Nat.lt_of_le_of_lt (Nat.div_le_self _ _) hb
    have e2 : wrap64 ((x : Int) * 2) = ((2 * x : Nat) : Int) := by rw [wrap_id (by omega) (by omega)]; omega
    have e3 : wrap64 ((i : Int) + 1) = ((i + 1 : Nat) : Int) := by rw [wrap_id (by omega) (by omega)]; omega
    rw [e1, and1_u8 hd, e2, e3]
    have e4 : Go.bits .xor .i64 (o : Int) (x : Int) = ((o ^^^ x : Nat) : Int) := xor_i64 (by omega) (by omega)
    have e5 : Go.bits .xor .i64 ((2 * x : Nat) : Int) 283 = ((2 * x ^^^ 283 : Nat) : Int) := xor_i64 (m := 2 * x) (n := 283) (by omega) (by omega)
    have e6 : b / 2 ^ i / 2 = b / 2 ^ (i + 1) := by rw [Nat.div_div_eq_div_mul, Nat.pow_succ]
    rw [e4, e5]
    have hT : T (n + 1) o x (b / 2 ^ i) = T n (if b / 2 ^ i % 2 = 1 then o ^^^ x else o) (xt x) (b / 2 ^ (i + 1)) := by rw [T, e6]
    rw [hT]
    have hxt := xt_lt hx
    have hox := xor_lt ho hx
    by_cases h1 : b / 2 ^ i % 2 = 1
    · rw [if_pos h1]
      refine ev_pos (by omega) ?_
      by_cases h2 : 2 * x > 255
      · refine ev_pos (by omega) ?_
        have : xt x = 2 * x ^^^ 283 := by unfold xt; rw [if_pos h2]
        rw [this] at hxt ⊢
        exact impl_Times.ev_l0 b hb n (i + 1) _ _ (by omega) hox hxt
      · refine ev_neg (by omega) ?_
        have : xt x = 2 * x := by unfold xt; rw [if_neg h2]
        rw [this] at hxt ⊢
        exact impl_Times.ev_l0 b hb n (i + 1) _ _ (by omega) hox hxt
    · rw [if_neg h1]
      refine ev_neg (by omega) ?_
      by_cases h2 : 2 * x > 255
      · refine ev_pos (by omega) ?_
        have : xt x = 2 * x ^^^ 283 := by unfold xt; rw [if_pos h2]
        rw [this] at hxt ⊢
        exact impl_Times.ev_l0 b hb n (i + 1) _ _ (by omega) ho hxt
      · refine ev_neg (by omega) ?_
        have : xt x = 2 * x := by unfold xt; rw [if_neg h2]
        rw [this] at hxt ⊢
        exact impl_Times.ev_l0 b hb n (i + 1) _ _ (by omega) ho hxt
theorem impl_Times.ev {a b : Int} (ha : Byte a) (hb : Byte b) : Ev (fun k => impl_Times.f k a b) (mul a b) := by
  obtain ⟨m, hm, rfl⟩ := ha.nat
  obtain ⟨n, hn, rfl⟩ := hb.nat
  unfold impl_Times.f
  rw [wrap_id (by omega) (by omega)]
  have h := impl_Times.ev_l0 n hn 8 0 0 m rfl (by decide) hm
  exact ev_eq h (by unfold Gf.mul gm; simp)

theorem impl_power.ev_l0 : ∀ (N n : Nat) (a o : Int), n ≤ N → n < 4294967296 → Byte a → Byte o → Ev (fun k => impl_power.l0 k a (n : Int) o) (mul o (pow a n)) := by
  intro N
  induction N with
  | zero =>
    intro n a o hN hn ha ho
    obtain rfl : n = 0 := by omega
    refine Ev.step (fun k => impl_power.l0.eq_2 _ _ _ k) ?_
    exact ev_neg (by omega) (ev_now (by rw [pow_zero, mul_one ho]))
  | succ N ih =>
    intro n a o hN hn ha ho
    refine Ev.step (fun k => impl_power.l0.eq_2 _ _ _ k) ?_
    by_cases h0 : n = 0
    · subst h0
      exact ev_neg (by omega) (ev_now (by rw [pow_zero, mul_one ho]))
    refine ev_pos (by omega) ?_
    have e : ((n : Int) / 2) = ((n / 2 : Nat) : Int) := by omega
    have haa := Byte.mul ha a
    have hsq : pow (mul a a) (n / 2) = pow a (2 * (n / 2)) := by rw [pow_mul ha, pow_two ha]
    rw [and1_i64 hn, e]
    by_cases h1 : n % 2 = 1
    · refine ev_pos (by omega) ?_
      refine ev_bind (impl_Times.ev ho ha) (ev_bind (impl_Times.ev ha ha) ?_)
      refine ev_eq (ih (n / 2) _ _ (by omega) (by omega) haa (Byte.mul ho a)) ?_
      have hn2 : n = 1 + 2 * (n / 2) := by omega
      rw [hsq, mul_assoc ho ha (Byte.pow ha _)]
      conv => rhs; rw [hn2, pow_add ha, pow_one ha]
    · refine ev_neg (by omega) ?_
      refine ev_bind (impl_Times.ev ha ha) ?_
      refine ev_eq (ih (n / 2) _ _ (by omega) (by omega) haa ho) ?_
      have hn2 : n = 2 * (n / 2) := by omega
      rw [hsq, ← hn2]
theorem impl_power.ev {a : Int} (ha : Byte a) (n : Nat) (hn : n < 4294967296) : Ev (fun k => impl_power.f k a (n : Int)) (pow a n) := by
  unfold impl_power.f
  refine ev_eq (impl_power.ev_l0 n n a 1 (Nat.le_refl _) hn ha .one) ?_
  exact one_mul (Byte.pow ha n)

theorem impl_Inverse.ev {a : Int} (ha : Byte a) : Ev (fun k => impl_Inverse.f k a) (inv a) := by
  unfold impl_Inverse.f
  exact ev_bind (impl_power.ev ha 254 (by decide)) (ev_now (inv_pow a).symm)

theorem impl_interpolated.ev_l1 (l : List (S116)) (x : Int) (hl : ShBytes l) (hx : Byte x) (hs : l.length ≤ 1048576) (acc : Int) (i : Nat) (hi : i < l.length) (R : Int)
    (hR : Ev (fun k => impl_interpolated.l0 k l x (gx acc (partBut (shY l i) x (shX l) i l.length)) l (l.length : Int) ((i + 1 : Nat) : Int)) R) (ha : Byte acc) : ∀ (n j : Nat), j + n = l.length →
    Ev (fun k => impl_interpolated.l1 k l x acc (i : Int) (partBut (shY l i) x (shX l) i j) l (l.length : Int) (i : Int) l (l.length : Int) (j : Int) (shX l i) (shY l i)) R
  | 0, j, hj => by
    obtain rfl : j = l.length := by omega
    have bp : Byte (partBut (shY l i) x (shX l) i l.length) := by
      rw [partBut_eq (hl i hi).2 hx i (hl i hi).1 l.length (fun q hq => (hl q hq).1)]
      exact Byte.mul (hl i hi).2 _
    refine Ev.step (fun k => impl_interpolated.l1.eq_2 _ _ _ _ _ _ _ _ _ _ _ _ _ k) ?_
    refine ev_neg (by omega) ?_
    rw [xor_u8 ha bp, inc (by omega)]
    exact hR
  | n + 1, j, hj => by
    have hjl : j < l.length := by omega
    have bp : Byte (partBut (shY l i) x (shX l) i j) := by
      rw [partBut_eq (hl i hi).2 hx i (hl i hi).1 j (fun q hq => (hl q (by omega)).1)]
      exact Byte.mul (hl i hi).2 _
    have ih := impl_interpolated.ev_l1 l x hl hx hs acc i hi R hR ha n (j + 1) (by omega)
    refine Ev.step (fun k => impl_interpolated.l1.eq_2 _ _ _ _ _ _ _ _ _ _ _ _ _ k) ?_
    refine ev_pos (by omega) (ev_pos (by omega) (ev_pos (by omega) ?_))
    rw [inc (by omega), rd_X]
    by_cases e : j = i
    · refine ev_pos (by omega) ?_
      rw [partBut, if_pos e] at ih
      exact ih
    · refine ev_neg (by omega) ?_
      rw [partBut, if_neg e] at ih
      have b1 := Byte.gx hx (hl j hjl).1
      have b2 := Byte.gx (hl i hi).1 (hl j hjl).1
      rw [xor_u8 hx (hl j hjl).1, xor_u8 (hl i hi).1 (hl j hjl).1]
      exact ev_bind (impl_Inverse.ev b2) (ev_bind (impl_Times.ev b1 b2.inv) (ev_bind (impl_Times.ev bp (Byte.mul b1 _)) ih))
theorem impl_interpolated.ev_l0 (l : List (S116)) (x : Int) (hl : ShBytes l) (hx : Byte x) (hs : l.length ≤ 1048576) : ∀ (n i : Nat), i + n = l.length →
    Ev (fun k => impl_interpolated.l0 k l x (sumOver (termOf l x) i) l (l.length : Int) (i : Int)) (throughOf l x)
  | 0, i, hi => by
    obtain rfl : i = l.length := by omega
    refine Ev.step (fun k => impl_interpolated.l0.eq_2 _ _ _ _ _ _ k) ?_
    exact ev_neg (by omega) (ev_now rfl)
  | n + 1, i, hi => by
    refine Ev.step (fun k => impl_interpolated.l0.eq_2 _ _ _ _ _ _ k) ?_
    refine ev_pos (by omega) (ev_pos (by omega) (ev_pos (by omega) ?_))
    rw [rd_X, rd_Y]
    have bs := sumOver_byte (f := termOf l x) i (fun j hj => termOf_byte hl x (by omega))
    have ih := impl_interpolated.ev_l0 l x hl hx hs n (i + 1) (by omega)
    have e : termOf l x i = partBut (shY l i) x (shX l) i l.length := (partBut_eq (hl i (by omega)).2 hx i (hl i (by omega)).1 l.length (fun q hq => (hl q hq).1)).symm
    rw [sumOver, e] at ih
    exact impl_interpolated.ev_l1 l x hl hx hs _ i (by omega) _ ih bs l.length 0 (by omega)
theorem impl_interpolated.ev {l : List (S116)} {x : Int} (hl : ShBytes l) (hx : Byte x) (hs : l.length ≤ 1048576) : Ev (fun k => impl_interpolated.f k l x) (throughOf l x) := by
  unfold impl_interpolated.f
  exact impl_interpolated.ev_l0 l x hl hx hs l.length 0 (by omega)

theorem impl_Interpolate.ev {l : List (S116)} {x : Int} (hl : ShBytes l) (hx : Byte x) (hs : l.length ≤ 1048576) : Ev (fun k => impl_Interpolate.f k l x) (interVal l x) := by
  unfold impl_Interpolate.f interVal
  refine ev_bind (impl_areShares.ev l (by omega)) ?_
  by_cases h : sharesOk (fun j => (l.getD j z116).f0) l.length 0 l.length = true
  · refine ev_pos h ?_
    by_cases h2 : l = []
    · subst h2
      exact ev_eq (ev_pos rfl (ev_now rfl)) (if_neg (fun z => z.2 rfl)).symm
    · refine ev_eq (ev_neg ?_ (ev_bind (impl_interpolated.ev hl hx hs) (ev_now rfl))) (if_pos ⟨h, h2⟩).symm
      have := List.length_pos_iff.2 h2
      omega
  · exact ev_eq (ev_neg h (ev_now rfl)) (if_neg (fun z => h z.1)).symm

theorem FnExactInterpolate : ∀ (l : List (S118)) (x : Int), (l.length ≤ maxLen ∧ ∀ s ∈ l, ((Lit.int .u8 s.f0).wf = true ∧ (Lit.int .u8 s.f1).wf = true)) → (Lit.int .u8 x).wf = true → ∃ k, laws_FnExactInterpolate.f k l x = some true := by
  intro l x hl hx
  have hx := Byte.of_wf hx
  refine Ev.rounds ?_
  unfold laws_FnExactInterpolate.f
  simp only [laws_szShareS.ev l hl.1, Option.bind_some]
  by_cases h : l.length ≤ 1048576
  · rw [if_pos h]
    refine ev_neg (by omega) ?_
    have ht := laws_toShareS.ev l h
    have hb : ShBytes (l.map toSh) := by
      intro j hj
      have hj' : j < l.length := by simpa using hj
      have hm := hl.2 _ (List.getElem_mem hj')
      have e : (l.map toSh).getD j z116 = toSh l[j] := by simp [List.getD, hj']
      unfold shX shY
      rw [e]
      exact ⟨.of_wf hm.1, .of_wf hm.2⟩
    have hn : (l.map toSh).length ≤ 1048576 := by simpa using h
    have hs := spec_Interpolate.ev hb hx hn
    have hi := impl_Interpolate.ev hb hx hn
    generalize interVal (l.map toSh) x = rb at hs hi
    obtain ⟨r, b⟩ := rb
    generalize l.map toSh = L at *
    repeat first
      | exact ev_now rfl
      | refine ev_bind ht ?_
      | refine ev_bind hs ?_
      | refine ev_bind hi ?_
      | refine ev_bind (laws_eqShareS.ev _ (by omega)) ?_
      | refine Ev.step (fun k => laws_FnExactInterpolate.j0.eq_2 _ _ _ k) ?_
      | refine ev_pos rfl ?_
      | (refine ev_neg ?hc ?_; (case hc => first | omega | (simp; done) | (simp; omega)))
      | (refine ev_pos ?hc ?_; (case hc => first | omega | (simp; done)))
  · rw [if_neg h]
    exact ev_pos (by omega) (ev_now rfl)

end Go.Proofs.Ythadpdoefhldnaa.Pure
