/- The given program's Inverse returns what the reference's Inverse returns, for all bytes; there is no condition. -/
import Derived.Test.YtolpnmijbhbdjaaPFnExactInversex1
import Derived.Test.YtolpnmijbhbdjaaKit
namespace Go.Proofs.Ytolpnmijbhbdjaa.Pure
open Go.RowKit Go.Proofs.Ytolpnmijbhbdjaa.PFnExactInverse Go.Proofs.YtolpnmijbhbdjaaW.PrintWords Go.Proofs.YtolpnmijbhbdjaaW.PrintLast Go.Proofs.Ytolpnmijbhbdjaa.Gf Go.Proofs.Ytolpnmijbhbdjaa.Kit
set_option linter.unusedVariables false
set_option linter.unusedSimpArgs false

theorem spec_l1Times.ev_l0 : ∀ (n o x y : Nat), y < 2 ^ n → n ≤ 8 → o < 256 → x < 256 →
    Ev (fun k => spec_l1Times.l0 k (o : Int) (x : Int) (y : Int)) ((T n o x y : Nat) : Int)
  | 0, o, x, y, hy, _, ho, hx => by
    refine Ev.step (fun k => spec_l1Times.l0.eq_2 _ _ _ k) ?_
    have : y = 0 := by simpa using hy
    subst this
    refine ev_neg (by decide) (ev_now ?_)
    simp only [T]
    omega
  | n + 1, o, x, y, hy, hn, ho, hx => by
    have hy8 : y < 256 := Nat.lt_of_lt_of_le hy (Nat.pow_le_pow_right (n := 2) (by decide) hn)
    by_cases h0 : y = 0
    · subst h0
      refine Ev.step (fun k => spec_l1Times.l0.eq_2 _ _ _ k) ?_
      refine ev_neg (by decide) (ev_now ?_)
      rw [T_zero]
      omega
    refine Ev.step (fun k => spec_l1Times.l0.eq_2 _ _ _ k) ?_
    refine ev_pos (by omega) ?_
    have e2 : wrap64 ((x : Int) * 2) = ((2 * x : Nat) : Int) := by rw [wrap_id (by omega) (by omega)]; omega
    have e3 : ((y : Int) / 2) = ((y / 2 : Nat) : Int) := by omega
    have e4 : Go.bits .xor .i64 (o : Int) (x : Int) = ((o ^^^ x : Nat) : Int) := xor_i64 (by omega) (by omega)
    have e5 : Go.bits .xor .i64 ((2 * x : Nat) : Int) 283 = ((2 * x ^^^ 283 : Nat) : Int) := xor_i64 (m := 2 * x) (n := 283) (by omega) (by omega)
    rw [and1_i64 (by omega), e2, e3, e4, e5]
    have hT : T (n + 1) o x y = T n (if y % 2 = 1 then o ^^^ x else o) (xt x) (y / 2) := by rw [T]
    rw [hT]
    have hxt := xt_lt hx
    have hox := xor_lt ho hx
    have hh : y / 2 < 2 ^ n := by rw [Nat.pow_succ] at hy; omega
    by_cases h1 : y % 2 = 1
    · rw [if_pos h1]
      refine ev_pos (by omega) ?_
      by_cases h2 : 2 * x > 255
      · refine ev_pos (by omega) ?_
        have : xt x = 2 * x ^^^ 283 := by unfold xt; rw [if_pos h2]
        rw [this] at hxt ⊢
        exact spec_l1Times.ev_l0 n _ _ _ hh (by omega) hox hxt
      · refine ev_neg (by omega) ?_
        have : xt x = 2 * x := by unfold xt; rw [if_neg h2]
        rw [this] at hxt ⊢
        exact spec_l1Times.ev_l0 n _ _ _ hh (by omega) hox hxt
    · rw [if_neg h1]
      refine ev_neg (by omega) ?_
      by_cases h2 : 2 * x > 255
      · refine ev_pos (by omega) ?_
        have : xt x = 2 * x ^^^ 283 := by unfold xt; rw [if_pos h2]
        rw [this] at hxt ⊢
        exact spec_l1Times.ev_l0 n _ _ _ hh (by omega) ho hxt
      · refine ev_neg (by omega) ?_
        have : xt x = 2 * x := by unfold xt; rw [if_neg h2]
        rw [this] at hxt ⊢
        exact spec_l1Times.ev_l0 n _ _ _ hh (by omega) ho hxt
theorem spec_l1Times.ev {a b : Int} (ha : Byte a) (hb : Byte b) : Ev (fun k => spec_l1Times.f k a b) (mul a b) := by
  obtain ⟨m, hm, rfl⟩ := ha.nat
  obtain ⟨n, hn, rfl⟩ := hb.nat
  unfold spec_l1Times.f
  rw [wrap_id (i := (m : Int)) (by omega) (by omega), wrap_id (i := (n : Int)) (by omega) (by omega)]
  have h := spec_l1Times.ev_l0 8 0 m n hn (Nat.le_refl _) (by decide) hm
  exact ev_eq h (by unfold Gf.mul gm; simp)

theorem spec_l1Power.ev_l0 (a : Int) (ha : Byte a) : ∀ (n m : Nat), n < 4611686018427387904 → Ev (fun k => spec_l1Power.l0 k a (n : Int) (pow a m)) (pow a (m + n))
  | 0, m, _ => by
    refine Ev.step (fun k => spec_l1Power.l0.eq_2 _ _ _ k) ?_
    exact ev_neg (by omega) (ev_now rfl)
  | n + 1, m, hn => by
    refine Ev.step (fun k => spec_l1Power.l0.eq_2 _ _ _ k) ?_
    refine ev_pos (by omega) ?_
    refine ev_bind (spec_l1Times.ev (Byte.pow ha m) ha) ?_
    have e : wrap64 (((n + 1 : Nat) : Int) - 1) = (n : Int) := by unfold wrap64; omega
    rw [e, ← pow_succ]
    refine ev_eq (spec_l1Power.ev_l0 a ha n (m + 1) (by omega)) ?_
    rw [Nat.add_right_comm, Nat.add_assoc]
theorem spec_l1Power.ev {a : Int} (ha : Byte a) (n : Nat) (hn : n < 4611686018427387904) : Ev (fun k => spec_l1Power.f k a (n : Int)) (pow a n) := by
  unfold spec_l1Power.f
  have := spec_l1Power.ev_l0 a ha n 0 hn
  rw [pow_zero, Nat.zero_add] at this
  exact this

theorem spec_l1Inverse.ev {a : Int} (ha : Byte a) : Ev (fun k => spec_l1Inverse.f k a) (inv a) := by
  unfold spec_l1Inverse.f
  by_cases h : a = 0
  · subst h
    exact ev_pos rfl (ev_now inv_zero.symm)
  · exact ev_neg h (ev_bind (spec_l1Power.ev ha 254 (by decide)) (ev_now (inv_pow a).symm))

theorem spec_Inverse.ev {a : Int} (ha : Byte a) : Ev (fun k => spec_Inverse.f k a) (inv a) := by
  unfold spec_Inverse.f
  exact ev_bind (spec_l1Inverse.ev ha) (ev_now rfl)

theorem impl_Times.ev_l0 (b : Nat) (hb : b < 256) : ∀ (n i o x : Nat), i + n = 8 → o < 256 → x < 256 →
    Ev (fun k => impl_Times.l0 k (b : Int) (o : Int) (i : Int) (x : Int)) ((T n o x (b / 2 ^ i) : Nat) : Int)
  | 0, i, o, x, hi, ho, hx => by
    refine Ev.step (fun k => impl_Times.l0.eq_2 _ _ _ _ k) ?_
    refine ev_neg (by omega) (ev_now ?_)
    simp only [T]
    omega
  | n + 1, i, o, x, hi, ho, hx => by
    refine Ev.step (fun k => impl_Times.l0.eq_2 _ _ _ _ k) ?_
    refine ev_pos (by omega) (ev_pos (by omega) ?_)
    have e1 : shr .u8 (b : Int) (i : Int) = ((b / 2 ^ i : Nat) : Int) := by
      unfold shr
      rw [Nat.min_eq_left (by simp only [IntKind.bits]; omega)]
      simp
    have hd : b / 2 ^ i < 256 := Nat.lt_of_le_of_lt (Nat.div_le_self _ _) hb
    have e2 : wrap64 ((x : Int) * 2) = ((2 * x : Nat) : Int) := by rw [wrap_id (by omega) (by omega)]; omega
    have e3 : wrap64 ((i : Int) + 1) = ((i + 1 : Nat) : Int) := by rw [wrap_id (by omega) (by omega)]; omega
    rw [e1, and1_u8 hd, e2, e3]
    have e4 : Go.bits .xor .i64 (o : Int) (x : Int) = ((o ^^^ x : Nat) : Int) := xor_i64 (by omega) (by omega)
    have e5 : Go.bits .xor .i64 ((2 * x : Nat) : Int) 283 = ((2 * x ^^^ 283 : Nat) : Int) := xor_i64 (m := 2 * x) (n := 283) (by omega) (by omega)
    have e6 : b / 2 ^ i / 2 = b / 2 ^ (i + 1) := by rw [Nat.div_div_eq_div_mul, Nat.pow_succ]
    rw [e4, e5]
    have hT : T (n + 1) o x (b / 2 ^ i) = T n (if b / 2 ^ i % 2 = 1 then o ^^^ x else o) (xt x) (b / 2 ^ (i + 1)) := by rw [T, e6]
    rw [hT]
    have hxt := xt_lt hx
    have hox := xor_lt ho hx
    by_cases h1 : b / 2 ^ i % 2 = 1
    · rw [if_pos h1]
      refine ev_pos (by omega) ?_
      by_cases h2 : 2 * x > 255
      · refine ev_pos (by omega) ?_
        have : xt x = 2 * x ^^^ 283 := by unfold xt; rw [if_pos h2]
        rw [this] at hxt ⊢
        exact impl_Times.ev_l0 b hb n (i + 1) _ _ (by omega) hox hxt
      · refine ev_neg (by omega) ?_
        have : xt x = 2 * x := by unfold xt; rw [if_neg h2]
        rw [this] at hxt ⊢
        exact impl_Times.ev_l0 b hb n (i + 1) _ _ (by omega) hox hxt
    · rw [if_neg h1]
      refine ev_neg (by omega) ?_
      by_cases h2 : 2 * x > 255
      · refine ev_pos (by omega) ?_
        have : xt x = 2 * x ^^^ 283 := by unfold xt; rw [if_pos h2]
        rw [this] at hxt ⊢
        exact impl_Times.ev_l0 b hb n (i + 1) _ _ (by omega) ho hxt
      · refine ev_neg (by omega) ?_
        have : xt x = 2 * x := by unfold xt; rw [if_neg h2]
        rw [this] at hxt ⊢
        exact impl_Times.ev_l0 b hb n (i + 1) _ _ (by omega) ho hxt
theorem impl_Times.ev {a b : Int} (ha : Byte a) (hb : Byte b) : Ev (fun k => impl_Times.f k a b) (mul a b) := by
  obtain ⟨m, hm, rfl⟩ := ha.nat
  obtain ⟨n, hn, rfl⟩ := hb.nat
  unfold impl_Times.f
  rw [wrap_id (by omega) (by omega)]
  have h := impl_Times.ev_l0 n hn 8 0 0 m rfl (by decide) hm
  exact ev_eq h (by unfold Gf.mul gm; simp)

theorem impl_power.ev_l0 : ∀ (N n : Nat) (a o : Int), n ≤ N → n < 4294967296 → Byte a → Byte o → Ev (fun k => impl_power.l0 k a (n : Int) o) (mul o (pow a n)) := by
  intro N
  induction N with
  | zero =>
    intro n a o hN hn ha ho
    obtain rfl : n = 0 := by omega
    refine Ev.step (fun k => impl_power.l0.eq_2 _ _ _ k) ?_
    exact ev_neg (by omega) (ev_now (by rw [pow_zero, mul_one ho]))
  | succ N ih =>
    intro n a o hN hn ha ho
    refine Ev.step (fun k => impl_power.l0.eq_2 _ _ _ k) ?_
    by_cases h0 : n = 0
    · subst h0
      exact ev_neg (by omega) (ev_now (by rw [pow_zero, mul_one ho]))
    refine ev_pos (by omega) ?_
    have e : ((n : Int) / 2) = ((n / 2 : Nat) : Int) := by omega
    have haa := Byte.mul ha a
    have hsq : pow (mul a a) (n / 2) = pow a (2 * (n / 2)) := by rw [pow_mul ha, pow_two ha]
    rw [and1_i64 hn, e]
    by_cases h1 : n % 2 = 1
    · refine ev_pos (by omega) ?_
      refine ev_bind (impl_Times.ev ho ha) (ev_bind (impl_Times.ev ha ha) ?_)
      refine ev_eq (ih (n / 2) _ _ (by omega) (by omega) haa (Byte.mul ho a)) ?_
      have hn2 : n = 1 + 2 * (n / 2) := by omega
      rw [hsq, mul_assoc ho ha (Byte.pow ha _)]
      conv => rhs; rw [hn2, pow_add ha, pow_one ha]
    · refine ev_neg (by omega) ?_
      refine ev_bind (impl_Times.ev ha ha) ?_
      refine ev_eq (ih (n / 2) _ _ (by omega) (by omega) haa ho) ?_
      have hn2 : n = 2 * (n / 2) := by omega
      rw [hsq, ← hn2]
theorem impl_power.ev {a : Int} (ha : Byte a) (n : Nat) (hn : n < 4294967296) : Ev (fun k => impl_power.f k a (n : Int)) (pow a n) := by
  unfold impl_power.f
  refine ev_eq (impl_power.ev_l0 n n a 1 (Nat.le_refl _) hn ha .one) ?_
  exact one_mul (Byte.pow ha n)

theorem impl_Inverse.ev {a : Int} (ha : Byte a) : Ev (fun k => impl_Inverse.f k a) (inv a) := by
  unfold impl_Inverse.f
  exact ev_bind (impl_power.ev ha 254 (by decide)) (ev_now (inv_pow a).symm)

theorem FnExactInverse : laws_FnExactInverse.Pure := by
  intro a ha
  have ha := Byte.of_wf ha
  refine Ev.rounds ?_
  unfold laws_FnExactInverse.f
  exact ev_bind (spec_Inverse.ev ha) (ev_bind (impl_Inverse.ev ha) (ev_pos rfl (ev_now rfl)))

end Go.Proofs.Ytolpnmijbhbdjaa.Pure
