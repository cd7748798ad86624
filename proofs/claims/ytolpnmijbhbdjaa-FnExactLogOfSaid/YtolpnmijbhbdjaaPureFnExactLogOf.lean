/- The given program's LogOf returns what the reference's LogOf returns, for all bytes; there is no condition. -/
import Derived.Test.YtolpnmijbhbdjaaPFnExactLogOfx1
import Derived.Test.YtolpnmijbhbdjaaKit
namespace Go.Proofs.Ytolpnmijbhbdjaa.Pure
open Go.RowKit Go.Proofs.Ytolpnmijbhbdjaa.PFnExactLogOf Go.Proofs.YtolpnmijbhbdjaaW.PrintWords Go.Proofs.YtolpnmijbhbdjaaW.PrintLast Go.Proofs.Ytolpnmijbhbdjaa.Gf Go.Proofs.Ytolpnmijbhbdjaa.Kit
set_option linter.unusedVariables false
set_option linter.unusedSimpArgs false

theorem spec_l1Times.ev_l0 : ∀ (n o x y : Nat), y < 2 ^ n → n ≤ 8 → o < 256 → x < 256 →
    Ev (fun k => spec_l1Times.l0 k (o : Int) (x : Int) (y : Int)) ((T n o x y : Nat) : Int)
  | 0, o, x, y, hy, _, ho, hx => by
    refine Ev.step (fun k => spec_l1Times.l0.eq_2 _ _ _ k) ?_
    have : y = 0 := by simpa using hy
    subst this
    refine ev_neg (by decide) (ev_now ?_)
    simp only [T]
    omega
  | n + 1, o, x, y, hy, hn, ho, hx => by
    have hy8 : y < 256 := Nat.lt_of_lt_of_le hy (Nat.pow_le_pow_right (n := 2) (by decide) hn)
    by_cases h0 : y = 0
    · subst h0
      refine Ev.step (fun k => spec_l1Times.l0.eq_2 _ _ _ k) ?_
      refine ev_neg (by decide) (ev_now ?_)
      rw [T_zero]
      omega
    refine Ev.step (fun k => spec_l1Times.l0.eq_2 _ _ _ k) ?_
    refine ev_pos (by omega) ?_
    have e2 : wrap64 ((x : Int) * 2) = ((2 * x : Nat) : Int) := by rw [wrap_id (by omega) (by omega)]; omega
    have e3 : ((y : Int) / 2) = ((y / 2 : Nat) : Int) := by omega
    have e4 : Go.bits .xor .i64 (o : Int) (x : Int) = ((o ^^^ x : Nat) : Int) := xor_i64 (by omega) (by omega)
    have e5 : Go.bits .xor .i64 ((2 * x : Nat) : Int) 283 = ((2 * x ^^^ 283 : Nat) : Int) := xor_i64 (m := 2 * x) (n := 283) (by omega) (by omega)
    rw [and1_i64 (by omega), e2, e3, e4, e5]
    have hT : T (n + 1) o x y = T n (if y % 2 = 1 then o ^^^ x else o) (xt x) (y / 2) := by rw [T]
    rw [hT]
    have hxt := xt_lt hx
    have hox := xor_lt ho hx
    have hh : y / 2 < 2 ^ n := by rw [Nat.pow_succ] at hy; omega
    by_cases h1 : y % 2 = 1
    · rw [if_pos h1]
      refine ev_pos (by omega) ?_
      by_cases h2 : 2 * x > 255
      · refine ev_pos (by omega) ?_
        have : xt x = 2 * x ^^^ 283 := by unfold xt; rw [if_pos h2]
        rw [this] at hxt ⊢
        exact spec_l1Times.ev_l0 n _ _ _ hh (by omega) hox hxt
      · refine ev_neg (by omega) ?_
        have : xt x = 2 * x := by unfold xt; rw [if_neg h2]
        rw [this] at hxt ⊢
        exact spec_l1Times.ev_l0 n _ _ _ hh (by omega) hox hxt
    · rw [if_neg h1]
      refine ev_neg (by omega) ?_
      by_cases h2 : 2 * x > 255
      · refine ev_pos (by omega) ?_
        have : xt x = 2 * x ^^^ 283 := by unfold xt; rw [if_pos h2]
        rw [this] at hxt ⊢
        exact spec_l1Times.ev_l0 n _ _ _ hh (by omega) ho hxt
      · refine ev_neg (by omega) ?_
        have : xt x = 2 * x := by unfold xt; rw [if_neg h2]
        rw [this] at hxt ⊢
        exact spec_l1Times.ev_l0 n _ _ _ hh (by omega) ho hxt
theorem spec_l1Times.ev {a b : Int} (ha : Byte a) (hb : Byte b) : Ev (fun k => spec_l1Times.f k a b) (mul a b) := by
  obtain ⟨m, hm, rfl⟩ := ha.nat
  obtain ⟨n, hn, rfl⟩ := hb.nat
  unfold spec_l1Times.f
  rw [wrap_id (i := (m : Int)) (by omega) (by omega), wrap_id (i := (n : Int)) (by omega) (by omega)]
  have h := spec_l1Times.ev_l0 8 0 m n hn (Nat.le_refl _) (by decide) hm
  exact ev_eq h (by unfold Gf.mul gm; simp)

theorem spec_LogOf.ev_l0 (a : Int) (n : Nat) (hn : n < 4294967296) (ha : pow 3 n = a) : ∀ (d i : Nat), i + d = n → (∀ j, j < i → pow 3 j ≠ a) → (∀ j, j < n → pow 3 j ≠ a) →
    Ev (fun k => spec_LogOf.l0 k a (i : Int) (pow 3 i)) ((n : Int), true)
  | 0, i, hi, _, _ => by
    refine Ev.step (fun k => spec_LogOf.l0.eq_2 _ _ _ k) ?_
    obtain rfl : i = n := by omega
    exact ev_pos ha (ev_now rfl)
  | d + 1, i, hi, h1, h2 => by
    have b3 : Byte 3 := ⟨by decide, by decide⟩
    refine Ev.step (fun k => spec_LogOf.l0.eq_2 _ _ _ k) ?_
    refine ev_neg (h2 i (by omega)) ?_
    refine ev_bind (spec_l1Times.ev (Byte.pow b3 i) b3) ?_
    rw [inc (by omega), ← pow_succ]
    exact spec_LogOf.ev_l0 a n hn ha d (i + 1) (by omega) (fun j hj => h2 j (by omega)) h2
theorem spec_LogOf.ev {a : Int} {n : Nat} (hn : n < 4294967296) (h0 : a ≠ 0) (ha : pow 3 n = a) (h2 : ∀ j, j < n → pow 3 j ≠ a) : Ev (fun k => spec_LogOf.f k a) ((n : Int), true) := by
  unfold spec_LogOf.f
  refine ev_neg h0 ?_
  have := spec_LogOf.ev_l0 a n hn ha n 0 (by omega) (fun j hj => absurd hj (by omega)) h2
  rw [pow_zero] at this
  exact this
theorem spec_LogOf.ev_zero : Ev (fun k => spec_LogOf.f k 0) (0, false) := by
  unfold spec_LogOf.f
  exact ev_pos rfl (ev_now rfl)

theorem impl_Times.ev_l0 (b : Nat) (hb : b < 256) : ∀ (n i o x : Nat), i + n = 8 → o < 256 → x < 256 →
    Ev (fun k => impl_Times.l0 k (b : Int) (o : Int) (i : Int) (x : Int)) ((T n o x (b / 2 ^ i) : Nat) : Int)
  | 0, i, o, x, hi, ho, hx => by
    refine Ev.step (fun k => impl_Times.l0.eq_2 _ _ _ _ k) ?_
    refine ev_neg (by omega) (ev_now ?_)
    simp only [T]
    omega
  | n + 1, i, o, x, hi, ho, hx => by
    refine Ev.step (fun k => impl_Times.l0.eq_2 _ _ _ _ k) ?_
    refine ev_pos (by omega) (ev_pos (by omega) ?_)
    have e1 : shr .u8 (b : Int) (i : Int) = ((b / 2 ^ i : Nat) : Int) := by
      unfold shr
      rw [Nat.min_eq_left (by simp only [IntKind.bits]; omega)]
      simp
    have hd : b / 2 ^ i < 256 := Nat.lt_of_le_of_lt (Nat.div_le_self _ _) hb
    have e2 : wrap64 ((x : Int) * 2) = ((2 * x : Nat) : Int) := by rw [wrap_id (by omega) (by omega)]; omega
    have e3 : wrap64 ((i : Int) + 1) = ((i + 1 : Nat) : Int) := by rw [wrap_id (by omega) (by omega)]; omega
    rw [e1, and1_u8 hd, e2, e3]
    have e4 : Go.bits .xor .i64 (o : Int) (x : Int) = ((o ^^^ x : Nat) : Int) := xor_i64 (by omega) (by omega)
    have e5 : Go.bits .xor .i64 ((2 * x : Nat) : Int) 283 = ((2 * x ^^^ 283 : Nat) : Int) := xor_i64 (m := 2 * x) (n := 283) (by omega) (by omega)
    have e6 : b / 2 ^ i / 2 = b / 2 ^ (i + 1) := by rw [Nat.div_div_eq_div_mul, Nat.pow_succ]
    rw [e4, e5]
    have hT : T (n + 1) o x (b / 2 ^ i) = T n (if b / 2 ^ i % 2 = 1 then o ^^^ x else o) (xt x) (b / 2 ^ (i + 1)) := by rw [T, e6]
    rw [hT]
    have hxt := xt_lt hx
    have hox := xor_lt ho hx
    by_cases h1 : b / 2 ^ i % 2 = 1
    · rw [if_pos h1]
      refine ev_pos (by omega) ?_
      by_cases h2 : 2 * x > 255
      · refine ev_pos (by omega) ?_
        have : xt x = 2 * x ^^^ 283 := by unfold xt; rw [if_pos h2]
        rw [this] at hxt ⊢
        exact impl_Times.ev_l0 b hb n (i + 1) _ _ (by omega) hox hxt
      · refine ev_neg (by omega) ?_
        have : xt x = 2 * x := by unfold xt; rw [if_neg h2]
        rw [this] at hxt ⊢
        exact impl_Times.ev_l0 b hb n (i + 1) _ _ (by omega) hox hxt
    · rw [if_neg h1]
      refine ev_neg (by omega) ?_
      by_cases h2 : 2 * x > 255
      · refine ev_pos (by omega) ?_
        have : xt x = 2 * x ^^^ 283 := by unfold xt; rw [if_pos h2]
        rw [this] at hxt ⊢
        exact impl_Times.ev_l0 b hb n (i + 1) _ _ (by omega) ho hxt
      · refine ev_neg (by omega) ?_
        have : xt x = 2 * x := by unfold xt; rw [if_neg h2]
        rw [this] at hxt ⊢
        exact impl_Times.ev_l0 b hb n (i + 1) _ _ (by omega) ho hxt
theorem impl_Times.ev {a b : Int} (ha : Byte a) (hb : Byte b) : Ev (fun k => impl_Times.f k a b) (mul a b) := by
  obtain ⟨m, hm, rfl⟩ := ha.nat
  obtain ⟨n, hn, rfl⟩ := hb.nat
  unfold impl_Times.f
  rw [wrap_id (by omega) (by omega)]
  have h := impl_Times.ev_l0 n hn 8 0 0 m rfl (by decide) hm
  exact ev_eq h (by unfold Gf.mul gm; simp)

theorem impl_LogOf.ev_l0 (a : Int) (n : Nat) (hn : n < 4294967296) (ha : pow 3 n = a) : ∀ (d i : Nat), i + d = n → (∀ j, j < i → pow 3 j ≠ a) → (∀ j, j < n → pow 3 j ≠ a) →
    Ev (fun k => impl_LogOf.l0 k a (i : Int) (pow 3 i)) ((n : Int), true)
  | 0, i, hi, _, _ => by
    refine Ev.step (fun k => impl_LogOf.l0.eq_2 _ _ _ k) ?_
    obtain rfl : i = n := by omega
    exact ev_pos ha (ev_now rfl)
  | d + 1, i, hi, h1, h2 => by
    have b3 : Byte 3 := ⟨by decide, by decide⟩
    refine Ev.step (fun k => impl_LogOf.l0.eq_2 _ _ _ k) ?_
    refine ev_neg (h2 i (by omega)) ?_
    refine ev_bind (impl_Times.ev (Byte.pow b3 i) b3) ?_
    rw [inc (by omega), ← pow_succ]
    exact impl_LogOf.ev_l0 a n hn ha d (i + 1) (by omega) (fun j hj => h2 j (by omega)) h2
theorem impl_LogOf.ev {a : Int} {n : Nat} (hn : n < 4294967296) (h0 : a ≠ 0) (ha : pow 3 n = a) (h2 : ∀ j, j < n → pow 3 j ≠ a) : Ev (fun k => impl_LogOf.f k a) ((n : Int), true) := by
  unfold impl_LogOf.f
  refine ev_neg h0 ?_
  have := impl_LogOf.ev_l0 a n hn ha n 0 (by omega) (fun j hj => absurd hj (by omega)) h2
  rw [pow_zero] at this
  exact this
theorem impl_LogOf.ev_zero : Ev (fun k => impl_LogOf.f k 0) (0, false) := by
  unfold impl_LogOf.f
  exact ev_pos rfl (ev_now rfl)

theorem FnExactLogOf : laws_FnExactLogOf.Pure := by
  intro a ha
  have ha := Byte.of_wf ha
  refine Ev.rounds ?_
  unfold laws_FnExactLogOf.f
  by_cases h0 : a = 0
  · subst h0
    exact ev_bind spec_LogOf.ev_zero (ev_bind impl_LogOf.ev_zero (ev_pos rfl (ev_neg (by simp) (ev_now rfl))))
  · obtain ⟨m, hm, rfl⟩ := ha.nat
    obtain ⟨n, hn, e, hl⟩ := first_log hm (by omega)
    exact ev_bind (spec_LogOf.ev (by omega) h0 e hl) (ev_bind (impl_LogOf.ev (by omega) h0 e hl) (ev_pos rfl (ev_neg (by simp) (ev_now rfl))))

end Go.Proofs.Ytolpnmijbhbdjaa.Pure
