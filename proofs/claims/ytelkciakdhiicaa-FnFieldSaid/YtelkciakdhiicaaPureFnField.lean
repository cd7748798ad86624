/- Bytes are a field, for all drawn bytes: products hang on no order and part over sums, each but 0 has an inverse, and 3 has all as powers; there is no condition. -/
import Derived.Test.YtelkciakdhiicaaPFnFieldx
import Derived.Test.YtelkciakdhiicaaKit
import Derived.Test.YtelkciakdhiicaaTxt
namespace Go.Proofs.Ytelkciakdhiicaa.Pure
open Go.RowKit Go.Proofs.Ytelkciakdhiicaa.PFnField Go.Proofs.YtelkciakdhiicaaW.PrintWords Go.Proofs.YtelkciakdhiicaaW.PrintLast Go.Proofs.Ytelkciakdhiicaa.Gf Go.Proofs.Ytelkciakdhiicaa.Kit Go.Proofs.Ytelkciakdhiicaa.KitW
set_option linter.unusedVariables false
set_option linter.unusedSimpArgs false

theorem low255 (y : Int) : 0 ≤ wrap64 (Go.bits .and .u64 y 255) ∧ wrap64 (Go.bits .and .u64 y 255) ≤ 255 := by
  have e : Go.bits .and .u64 y 255 = IntKind.u64.wrap (((BitVec.ofInt 64 y &&& BitVec.ofInt 64 255).toNat : Nat) : Int) := rfl
  have h : (BitVec.ofInt 64 y &&& BitVec.ofInt 64 255).toNat ≤ 255 := by
    rw [BitVec.toNat_and]
    exact Nat.le_trans Nat.and_le_right (by decide)
  rw [e]
  generalize (BitVec.ofInt 64 y &&& BitVec.ofInt 64 255).toNat = n at h
  have e2 : IntKind.u64.wrap (n : Int) = (n : Int) := by
    first
      | (rw [IntKind.wrap_u64]; omega)
      | (simp [IntKind.wrap, IntKind.bits, IntKind.signed]; omega)
  rw [e2, wrap_id (by omega) (by omega)]
  omega
theorem spec_l1Cur_next.some_ {s : List Int} (hs : Bytes s) {a z : Int} (h0 : 0 ≤ a) (h1 : a ≤ 4611686018427387904) : ∃ x z', spec_l1Cur_next.f s a z = some (x, a + 1, z') ∧ 0 ≤ x ∧ x ≤ 255 := by
  unfold spec_l1Cur_next.f
  have e : wrap64 (a + 1) = a + 1 := wrap_id (by omega) (by omega)
  rw [e]
  by_cases c1 : a < (s.length : Int)
  · rw [if_pos c1, if_pos h0, if_pos (show a + 1 ≤ (s.length : Int) by omega)]
    refine ⟨_, _, rfl, ?_⟩
    have hb : Byte (rd s a) := by
      obtain ⟨i, rfl⟩ := Int.eq_ofNat_of_zero_le h0
      have hi : i < s.length := by omega
      rw [rd_nat, List.getD_eq_getElem?_getD, List.getElem?_eq_getElem hi]
      exact hs _ (List.getElem_mem hi)
    have hb1 := hb.1
    have hb2 := hb.2
    rw [wrap_id hb1 (by omega)]
    omega
  · rw [if_neg c1, if_neg (show ¬ a + 1 ≤ (s.length : Int) by omega)]
    exact ⟨_, _, rfl, low255 _⟩

theorem spec_l1Cur_pick.some_ {s : List Int} (hs : Bytes s) {a z n : Int} (h0 : 0 ≤ a) (h1 : a ≤ 4611686018427387000) (hn : 1 ≤ n) : ∃ x b z', spec_l1Cur_pick.f s a z n = some (x, b, z') ∧ 0 ≤ x ∧ x < n ∧ a ≤ b ∧ b ≤ a + 2 := by
  unfold spec_l1Cur_pick.f
  by_cases c1 : n ≤ 1
  · rw [if_pos c1]
    exact ⟨_, _, _, rfl, by omega, by omega, by omega, by omega⟩
  · rw [if_neg c1]
    obtain ⟨x, z1, e, hx0, hx1⟩ := spec_l1Cur_next.some_ hs (z := z) h0 (by omega)
    rw [e, Option.bind_some]
    dsimp only
    by_cases c2 : n > 200
    · rw [if_pos c2]
      obtain ⟨y, z2, e2, hy0, hy1⟩ := spec_l1Cur_next.some_ hs (a := a + 1) (z := z1) (by omega) (by omega)
      rw [e2, Option.bind_some, if_neg (by omega)]
      refine ⟨_, a + 1 + 1, _, rfl, ?_, Int.tmod_lt_of_pos _ (by omega), by omega, by omega⟩
      rw [wrap_id (i := x * 256) (by omega) (by omega), wrap_id (by omega) (by omega)]
      exact Int.tmod_nonneg _ (by omega)
    · rw [if_neg c2, if_neg (by omega)]
      exact ⟨_, a + 1, _, rfl, Int.tmod_nonneg _ hx0, Int.tmod_lt_of_pos _ (by omega), by omega, by omega⟩

theorem spec_l1Cur_among.some_ {s : List Int} (hs : Bytes s) {a z : Int} {l : List Int} (h0 : 0 ≤ a) (h1 : a ≤ 4611686018427387000) (hl : 1 ≤ l.length) : ∃ x b z', spec_l1Cur_among.f s a z l = some (x, b, z') ∧ a ≤ b ∧ b ≤ a + 2 := by
  unfold spec_l1Cur_among.f
  obtain ⟨x, b, z1, e, hx0, hx1, hb0, hb1⟩ := spec_l1Cur_pick.some_ hs (z := z) (n := (l.length : Int)) h0 h1 (by omega)
  rw [e, Option.bind_some, if_pos hx0, if_pos hx1]
  exact ⟨_, _, _, rfl, hb0, hb1⟩

theorem spec_l1Cur_one.some_ {s : List Int} (hs : Bytes s) {a z n : Int} (h0 : 0 ≤ a) (h1 : a ≤ 4611686018427387000) (hn : 1 ≤ n) : ∃ x b z', spec_l1Cur_one.f s a z n = some (x, b, z') ∧ a ≤ b ∧ b ≤ a + 2 := by
  unfold spec_l1Cur_one.f
  obtain ⟨x, b, z1, e, hx0, hx1, hb0, hb1⟩ := spec_l1Cur_pick.some_ hs (z := z) h0 h1 hn
  rw [e, Option.bind_some]
  exact ⟨_, _, _, rfl, hb0, hb1⟩

theorem spec_l1Cur_byte.some_ {s : List Int} (hs : Bytes s) {a z : Int} (h0 : 0 ≤ a) (h1 : a ≤ 4611686018427386000) : ∃ x b z', spec_l1Cur_byte.f s a z = some (x, b, z') ∧ Byte x ∧ a ≤ b ∧ b ≤ a + 4 := by
  unfold spec_l1Cur_byte.f
  obtain ⟨x, b, z1, e, hb0, hb1⟩ := spec_l1Cur_one.some_ hs (z := z) (n := 5) h0 (by omega) (by decide)
  rw [e, Option.bind_some]
  dsimp only
  have hm : ∀ v : Int, Byte (v % 256) := fun v => ⟨Int.emod_nonneg _ (by decide), Int.emod_lt_of_pos _ (by decide)⟩
  cases x with
  | true =>
    obtain ⟨y, c, z2, e2, hc0, hc1⟩ := spec_l1Cur_among.some_ hs (a := b) (z := z1) (l := [0, 1, 2, 3, 255, 27]) (by omega) (by omega) (by decide)
    rw [if_pos rfl, e2, Option.bind_some]
    exact ⟨_, c, _, rfl, hm _, by omega, by omega⟩
  | false =>
    obtain ⟨y, c, z2, e2, _, _, hc0, hc1⟩ := spec_l1Cur_pick.some_ hs (a := b) (z := z1) (n := 256) (by omega) (by omega) (by decide)
    rw [if_neg (by decide), e2, Option.bind_some]
    exact ⟨_, c, _, rfl, hm _, by omega, by omega⟩

theorem spec_DrawTimes.some_ {s : List Int} (hs : Bytes s) : ∃ x y, spec_DrawTimes.f s = some (x, y) ∧ Byte x ∧ Byte y := by
  unfold spec_DrawTimes.f
  obtain ⟨x, b, z, e, hx, h0, h1⟩ := spec_l1Cur_byte.some_ hs (a := 0) (z := 0) (by decide) (by decide)
  rw [e, Option.bind_some]
  obtain ⟨y, c, z2, e2, hy, _, _⟩ := spec_l1Cur_byte.some_ hs (a := b) (z := z) (by omega) (by omega)
  dsimp only
  rw [e2, Option.bind_some]
  exact ⟨_, _, rfl, hx, hy⟩

theorem spec_DrawPower.some_ {s : List Int} (hs : Bytes s) : ∃ x y, spec_DrawPower.f s = some (x, y) ∧ Byte x := by
  unfold spec_DrawPower.f
  obtain ⟨x, b, z, e, hx, h0, h1⟩ := spec_l1Cur_byte.some_ hs (a := 0) (z := 0) (by decide) (by decide)
  rw [e, Option.bind_some]
  obtain ⟨y, c, z2, e2, _, _⟩ := spec_l1Cur_among.some_ hs (a := b) (z := z) (l := [-1, 0, 1, 2, 254, 255, 256, 10000, 10001]) (by omega) (by omega) (by decide)
  dsimp only
  rw [e2, Option.bind_some]
  exact ⟨_, _, rfl, hx⟩

theorem impl_Times.ev_l0 (b : Nat) (hb : b < 256) : ∀ (n i o x : Nat), i + n = 8 → o < 256 → x < 256 →
    Ev (fun k => impl_Times.l0 k (b : Int) (o : Int) (i : Int) (x : Int)) ((T n o x (b / 2 ^ i) : Nat) : Int)
  | 0, i, o, x, hi, ho, hx => by
    refine Ev.step (fun k => impl_Times.l0.eq_2 _ _ _ _ k) ?_
    refine ev_neg (by omega) (ev_now ?_)
    simp only [T]
    omega
  | n + 1, i, o, x, hi, ho, hx => by
    refine Ev.step (fun k => impl_Times.l0.eq_2 _ _ _ _ k) ?_
    refine ev_pos (by omega) (ev_pos (by omega) ?_)
    have e1 : shr .u8 (b : Int) (i : Int) = ((b / 2 ^ i : Nat) : Int) := by
      unfold shr
      rw [Nat.min_eq_left (by simp only [IntKind.bits]; omega)]
      simp
    have hd : b / 2 ^ i < 256 := Nat.lt_of_le_of_lt (Nat.div_le_self _ _) hb
    have e2 : wrap64 ((x : Int) * 2) = ((2 * x : Nat) : Int) := by rw [wrap_id (by omega) (by omega)]; omega
    have e3 : wrap64 ((i : Int) + 1) = ((i + 1 : Nat) : Int) := by rw [wrap_id (by omega) (by omega)]; omega
    rw [e1, and1_u8 hd, e2, e3]
    have e4 : Go.bits .xor .i64 (o : Int) (x : Int) = ((o ^^^ x : Nat) : Int) := xor_i64 (by omega) (by omega)
    have e5 : Go.bits .xor .i64 ((2 * x : Nat) : Int) 283 = ((2 * x ^^^ 283 : Nat) : Int) := xor_i64 (m := 2 * x) (n := 283) (by omega) (by omega)
    have e6 : b / 2 ^ i / 2 = b / 2 ^ (i + 1) := by rw [Nat.div_div_eq_div_mul, Nat.pow_succ]
    rw [e4, e5]
    have hT : T (n + 1) o x (b / 2 ^ i) = T n (if b / 2 ^ i % 2 = 1 then o ^^^ x else o) (xt x) (b / 2 ^ (i + 1)) := by rw [T, e6]
    rw [hT]
    have hxt := xt_lt hx
    have hox := xor_lt ho hx
    by_cases h1 : b / 2 ^ i % 2 = 1
    · rw [if_pos h1]
      refine ev_pos (by omega) ?_
      by_cases h2 : 2 * x > 255
      · refine ev_pos (by omega) ?_
        have : xt x = 2 * x ^^^ 283 := by unfold xt; rw [if_pos h2]
        rw [this] at hxt ⊢
        exact impl_Times.ev_l0 b hb n (i + 1) _ _ (by omega) hox hxt
      · refine ev_neg (by omega) ?_
        have : xt x = 2 * x := by unfold xt; rw [if_neg h2]
        rw [this] at hxt ⊢
        exact impl_Times.ev_l0 b hb n (i + 1) _ _ (by omega) hox hxt
    · rw [if_neg h1]
      refine ev_neg (by omega) ?_
      by_cases h2 : 2 * x > 255
      · refine ev_pos (by omega) ?_
        have : xt x = 2 * x ^^^ 283 := by unfold xt; rw [if_pos h2]
        rw [this] at hxt ⊢
        exact impl_Times.ev_l0 b hb n (i + 1) _ _ (by omega) ho hxt
      · refine ev_neg (by omega) ?_
        have : xt x = 2 * x := by unfold xt; rw [if_neg h2]
        rw [this] at hxt ⊢
        exact impl_Times.ev_l0 b hb n (i + 1) _ _ (by omega) ho hxt
theorem impl_Times.ev {a b : Int} (ha : Byte a) (hb : Byte b) : Ev (fun k => impl_Times.f k a b) (mul a b) := by
  obtain ⟨m, hm, rfl⟩ := ha.nat
  obtain ⟨n, hn, rfl⟩ := hb.nat
  unfold impl_Times.f
  rw [wrap_id (by omega) (by omega)]
  have h := impl_Times.ev_l0 n hn 8 0 0 m rfl (by decide) hm
  exact ev_eq h (by unfold Gf.mul gm; simp)

theorem spec_l1Times.ev_l0 : ∀ (n o x y : Nat), y < 2 ^ n → n ≤ 8 → o < 256 → x < 256 →
    Ev (fun k => spec_l1Times.l0 k (o : Int) (x : Int) (y : Int)) ((T n o x y : Nat) : Int)
  | 0, o, x, y, hy, _, ho, hx => by
    refine Ev.step (fun k => spec_l1Times.l0.eq_2 _ _ _ k) ?_
    have : y = 0 := by simpa using hy
    subst this
    refine ev_neg (by decide) (ev_now ?_)
    simp only [T]
    omega
  | n + 1, o, x, y, hy, hn, ho, hx => by
    have hy8 : y < 256 := Nat.lt_of_lt_of_le hy (Nat.pow_le_pow_right (n := 2) (by decide) hn)
    by_cases h0 : y = 0
    · subst h0
      refine Ev.step (fun k => spec_l1Times.l0.eq_2 _ _ _ k) ?_
      refine ev_neg (by decide) (ev_now ?_)
      rw [T_zero]
      omega
    refine Ev.step (fun k => spec_l1Times.l0.eq_2 _ _ _ k) ?_
    refine ev_pos (by omega) ?_
    have e2 : wrap64 ((x : Int) * 2) = ((2 * x : Nat) : Int) := by rw [wrap_id (by omega) (by omega)]; omega
    have e3 : ((y : Int) / 2) = ((y / 2 : Nat) : Int) := by omega
    have e4 : Go.bits .xor .i64 (o : Int) (x : Int) = ((o ^^^ x : Nat) : Int) := xor_i64 (by omega) (by omega)
    have e5 : Go.bits .xor .i64 ((2 * x : Nat) : Int) 283 = ((2 * x ^^^ 283 : Nat) : Int) := xor_i64 (m := 2 * x) (n := 283) (by omega) (by omega)
    rw [and1_i64 (by omega), e2, e3, e4, e5]
    have hT : T (n + 1) o x y = T n (if y % 2 = 1 then o ^^^ x else o) (xt x) (y / 2) := by rw [T]
    rw [hT]
    have hxt := xt_lt hx
    have hox := xor_lt ho hx
    have hh : y / 2 < 2 ^ n := by rw [Nat.pow_succ] at hy; omega
    by_cases h1 : y % 2 = 1
    · rw [if_pos h1]
      refine ev_pos (by omega) ?_
      by_cases h2 : 2 * x > 255
      · refine ev_pos (by omega) ?_
        have : xt x = 2 * x ^^^ 283 := by unfold xt; rw [if_pos h2]
        rw [this] at hxt ⊢
        exact spec_l1Times.ev_l0 n _ _ _ hh (by omega) hox hxt
      · refine ev_neg (by omega) ?_
        have : xt x = 2 * x := by unfold xt; rw [if_neg h2]
        rw [this] at hxt ⊢
        exact spec_l1Times.ev_l0 n _ _ _ hh (by omega) hox hxt
    · rw [if_neg h1]
      refine ev_neg (by omega) ?_
      by_cases h2 : 2 * x > 255
      · refine ev_pos (by omega) ?_
        have : xt x = 2 * x ^^^ 283 := by unfold xt; rw [if_pos h2]
        rw [this] at hxt ⊢
        exact spec_l1Times.ev_l0 n _ _ _ hh (by omega) ho hxt
      · refine ev_neg (by omega) ?_
        have : xt x = 2 * x := by unfold xt; rw [if_neg h2]
        rw [this] at hxt ⊢
        exact spec_l1Times.ev_l0 n _ _ _ hh (by omega) ho hxt
theorem spec_l1Times.ev {a b : Int} (ha : Byte a) (hb : Byte b) : Ev (fun k => spec_l1Times.f k a b) (mul a b) := by
  obtain ⟨m, hm, rfl⟩ := ha.nat
  obtain ⟨n, hn, rfl⟩ := hb.nat
  unfold spec_l1Times.f
  rw [wrap_id (i := (m : Int)) (by omega) (by omega), wrap_id (i := (n : Int)) (by omega) (by omega)]
  have h := spec_l1Times.ev_l0 8 0 m n hn (Nat.le_refl _) (by decide) hm
  exact ev_eq h (by unfold Gf.mul gm; simp)

theorem spec_Times.ev {a b : Int} (ha : Byte a) (hb : Byte b) : Ev (fun k => spec_Times.f k a b) (mul a b) := by
  unfold spec_Times.f
  exact ev_bind (spec_l1Times.ev ha hb) (ev_now rfl)

theorem impl_power.ev_l0 : ∀ (N n : Nat) (a o : Int), n ≤ N → n < 4294967296 → Byte a → Byte o → Ev (fun k => impl_power.l0 k a (n : Int) o) (mul o (pow a n)) := by
  intro N
  induction N with
  | zero =>
    intro n a o hN hn ha ho
    obtain rfl : n = 0 := by omega
    refine Ev.step (fun k => impl_power.l0.eq_2 _ _ _ k) ?_
    exact ev_neg (by omega) (ev_now (by rw [pow_zero, mul_one ho]))
  | succ N ih =>
    intro n a o hN hn ha ho
    refine Ev.step (fun k => impl_power.l0.eq_2 _ _ _ k) ?_
    by_cases h0 : n = 0
    · subst h0
      exact ev_neg (by omega) (ev_now (by rw [pow_zero, mul_one ho]))
    refine ev_pos (by omega) ?_
    have e : ((n : Int) / 2) = ((n / 2 : Nat) : Int) := by omega
    have haa := Byte.mul ha a
    have hsq : pow (mul a a) (n / 2) = pow a (2 * (n / 2)) := by rw [pow_mul ha, pow_two ha]
    rw [and1_i64 hn, e]
    by_cases h1 : n % 2 = 1
    · refine ev_pos (by omega) ?_
      refine ev_bind (impl_Times.ev ho ha) (ev_bind (impl_Times.ev ha ha) ?_)
      refine ev_eq (ih (n / 2) _ _ (by omega) (by omega) haa (Byte.mul ho a)) ?_
      have hn2 : n = 1 + 2 * (n / 2) := by omega
      rw [hsq, mul_assoc ho ha (Byte.pow ha _)]
      conv => rhs; rw [hn2, pow_add ha, pow_one ha]
    · refine ev_neg (by omega) ?_
      refine ev_bind (impl_Times.ev ha ha) ?_
      refine ev_eq (ih (n / 2) _ _ (by omega) (by omega) haa ho) ?_
      have hn2 : n = 2 * (n / 2) := by omega
      rw [hsq, ← hn2]
theorem impl_power.ev {a : Int} (ha : Byte a) (n : Nat) (hn : n < 4294967296) : Ev (fun k => impl_power.f k a (n : Int)) (pow a n) := by
  unfold impl_power.f
  refine ev_eq (impl_power.ev_l0 n n a 1 (Nat.le_refl _) hn ha .one) ?_
  exact one_mul (Byte.pow ha n)

theorem impl_Inverse.ev {a : Int} (ha : Byte a) : Ev (fun k => impl_Inverse.f k a) (inv a) := by
  unfold impl_Inverse.f
  exact ev_bind (impl_power.ev ha 254 (by decide)) (ev_now (inv_pow a).symm)

theorem spec_l1Power.ev_l0 (a : Int) (ha : Byte a) : ∀ (n m : Nat), n < 4611686018427387904 → Ev (fun k => spec_l1Power.l0 k a (n : Int) (pow a m)) (pow a (m + n))
  | 0, m, _ => by
    refine Ev.step (fun k => spec_l1Power.l0.eq_2 _ _ _ k) ?_
    exact ev_neg (by omega) (ev_now rfl)
  | n + 1, m, hn => by
    refine Ev.step (fun k => spec_l1Power.l0.eq_2 _ _ _ k) ?_
    refine ev_pos (by omega) ?_
    refine ev_bind (spec_l1Times.ev (Byte.pow ha m) ha) ?_
    have e : wrap64 (((n + 1 : Nat) : Int) - 1) = (n : Int) := by unfold wrap64; omega
    rw [e, ← pow_succ]
    refine ev_eq (spec_l1Power.ev_l0 a ha n (m + 1) (by omega)) ?_
    rw [Nat.add_right_comm, Nat.add_assoc]
theorem spec_l1Power.ev {a : Int} (ha : Byte a) (n : Nat) (hn : n < 4611686018427387904) : Ev (fun k => spec_l1Power.f k a (n : Int)) (pow a n) := by
  unfold spec_l1Power.f
  have := spec_l1Power.ev_l0 a ha n 0 hn
  rw [pow_zero, Nat.zero_add] at this
  exact this

theorem spec_l1Inverse.ev {a : Int} (ha : Byte a) : Ev (fun k => spec_l1Inverse.f k a) (inv a) := by
  unfold spec_l1Inverse.f
  by_cases h : a = 0
  · subst h
    exact ev_pos rfl (ev_now inv_zero.symm)
  · exact ev_neg h (ev_bind (spec_l1Power.ev ha 254 (by decide)) (ev_now (inv_pow a).symm))

theorem spec_Inverse.ev {a : Int} (ha : Byte a) : Ev (fun k => spec_Inverse.f k a) (inv a) := by
  unfold spec_Inverse.f
  exact ev_bind (spec_l1Inverse.ev ha) (ev_now rfl)

theorem impl_within.ev (a b c : Int) : impl_within.f a b c = some (decide (b ≤ a ∧ a ≤ c)) := by
  unfold impl_within.f
  by_cases h : a ≥ b
  · rw [if_pos h]; simp [h]
  · rw [if_neg h]; simp; omega

def impl_Power.val (a n : Int) : Int × Bool := if 0 ≤ n ∧ n ≤ 10000 then (pow a n.toNat, true) else (0, false)
theorem impl_Power.ev {a : Int} (ha : Byte a) (n : Int) : Ev (fun k => impl_Power.f k a n) (impl_Power.val a n) := by
  unfold impl_Power.f impl_Power.val
  simp only [impl_within.ev, Option.bind_some, decide_eq_true_eq]
  by_cases h : 0 ≤ n ∧ n ≤ 10000
  · rw [if_pos h]
    refine ev_pos h ?_
    obtain ⟨m, rfl⟩ := Int.eq_ofNat_of_zero_le h.1
    rw [Int.toNat_natCast]
    exact ev_bind (impl_power.ev ha m (by omega)) (ev_now rfl)
  · rw [if_neg h]
    exact ev_neg h (ev_now rfl)

theorem spec_l1In.ev (a b c : Int) : spec_l1In.f a b c = some (decide (b ≤ a ∧ a ≤ c)) := by
  unfold spec_l1In.f
  by_cases h : a ≥ b
  · rw [if_pos h]; simp [h]
  · rw [if_neg h]; simp; omega

def spec_Power.val (a n : Int) : Int × Bool := if 0 ≤ n ∧ n ≤ 10000 then (pow a n.toNat, true) else (0, false)
theorem spec_Power.ev {a : Int} (ha : Byte a) (n : Int) : Ev (fun k => spec_Power.f k a n) (spec_Power.val a n) := by
  unfold spec_Power.f spec_Power.val
  simp only [spec_l1In.ev, Option.bind_some, decide_eq_true_eq]
  by_cases h : 0 ≤ n ∧ n ≤ 10000
  · rw [if_pos h]
    refine ev_pos h ?_
    obtain ⟨m, rfl⟩ := Int.eq_ofNat_of_zero_le h.1
    rw [Int.toNat_natCast]
    exact ev_bind (spec_l1Power.ev ha m (by omega)) (ev_now rfl)
  · rw [if_neg h]
    exact ev_neg h (ev_now rfl)

theorem impl_LogOf.ev_l0 (a : Int) (n : Nat) (hn : n < 4294967296) (ha : pow 3 n = a) : ∀ (d i : Nat), i + d = n → (∀ j, j < i → pow 3 j ≠ a) → (∀ j, j < n → pow 3 j ≠ a) →
    Ev (fun k => impl_LogOf.l0 k a (i : Int) (pow 3 i)) ((n : Int), true)
  | 0, i, hi, _, _ => by
    refine Ev.step (fun k => impl_LogOf.l0.eq_2 _ _ _ k) ?_
    obtain rfl : i = n := by omega
    exact ev_pos ha (ev_now rfl)
  | d + 1, i, hi, h1, h2 => by
    have b3 : Byte 3 := ⟨by decide, by decide⟩
    refine Ev.step (fun k => impl_LogOf.l0.eq_2 _ _ _ k) ?_
    refine ev_neg (h2 i (by omega)) ?_
    refine ev_bind (impl_Times.ev (Byte.pow b3 i) b3) ?_
    rw [inc (by omega), ← pow_succ]
    exact impl_LogOf.ev_l0 a n hn ha d (i + 1) (by omega) (fun j hj => h2 j (by omega)) h2
theorem impl_LogOf.ev {a : Int} {n : Nat} (hn : n < 4294967296) (h0 : a ≠ 0) (ha : pow 3 n = a) (h2 : ∀ j, j < n → pow 3 j ≠ a) : Ev (fun k => impl_LogOf.f k a) ((n : Int), true) := by
  unfold impl_LogOf.f
  refine ev_neg h0 ?_
  have := impl_LogOf.ev_l0 a n hn ha n 0 (by omega) (fun j hj => absurd hj (by omega)) h2
  rw [pow_zero] at this
  exact this
theorem impl_LogOf.ev_zero : Ev (fun k => impl_LogOf.f k 0) (0, false) := by
  unfold impl_LogOf.f
  exact ev_pos rfl (ev_now rfl)

theorem spec_LogOf.ev_l0 (a : Int) (n : Nat) (hn : n < 4294967296) (ha : pow 3 n = a) : ∀ (d i : Nat), i + d = n → (∀ j, j < i → pow 3 j ≠ a) → (∀ j, j < n → pow 3 j ≠ a) →
    Ev (fun k => spec_LogOf.l0 k a (i : Int) (pow 3 i)) ((n : Int), true)
  | 0, i, hi, _, _ => by
    refine Ev.step (fun k => spec_LogOf.l0.eq_2 _ _ _ k) ?_
    obtain rfl : i = n := by omega
    exact ev_pos ha (ev_now rfl)
  | d + 1, i, hi, h1, h2 => by
    have b3 : Byte 3 := ⟨by decide, by decide⟩
    refine Ev.step (fun k => spec_LogOf.l0.eq_2 _ _ _ k) ?_
    refine ev_neg (h2 i (by omega)) ?_
    refine ev_bind (spec_l1Times.ev (Byte.pow b3 i) b3) ?_
    rw [inc (by omega), ← pow_succ]
    exact spec_LogOf.ev_l0 a n hn ha d (i + 1) (by omega) (fun j hj => h2 j (by omega)) h2
theorem spec_LogOf.ev {a : Int} {n : Nat} (hn : n < 4294967296) (h0 : a ≠ 0) (ha : pow 3 n = a) (h2 : ∀ j, j < n → pow 3 j ≠ a) : Ev (fun k => spec_LogOf.f k a) ((n : Int), true) := by
  unfold spec_LogOf.f
  refine ev_neg h0 ?_
  have := spec_LogOf.ev_l0 a n hn ha n 0 (by omega) (fun j hj => absurd hj (by omega)) h2
  rw [pow_zero] at this
  exact this
theorem spec_LogOf.ev_zero : Ev (fun k => spec_LogOf.f k 0) (0, false) := by
  unfold spec_LogOf.f
  exact ev_pos rfl (ev_now rfl)

theorem FnField : ∀ (l0 l1 : List Int), (l0.length ≤ maxLen ∧ ∀ x ∈ l0, (Lit.int .u8 x).wf = true) → (l1.length ≤ maxLen ∧ ∀ x ∈ l1, (Lit.int .u8 x).wf = true) → ∃ k, laws_FnField.f k l0 l1 = some true := by
  intro l0 l1 h0 h1
  refine Ev.rounds ?_
  unfold laws_FnField.f
  by_cases hz : wrap64 ((l0.length : Int) + (l1.length : Int)) > 1048576
  · exact ev_pos hz (ev_now rfl)
  · refine ev_neg hz ?_
    obtain ⟨a, b, e1, ha, hb⟩ := spec_DrawTimes.some_ (Bytes.of_wf h0.2)
    obtain ⟨c, n, e2, hc⟩ := spec_DrawPower.some_ (Bytes.of_wf h1.2)
    rw [e1, e2]
    simp only [Option.bind_some]
    refine ev_bind (impl_Times.ev ha hb) (ev_bind (spec_Times.ev ha hb) (ev_pos rfl (ev_bind (impl_Times.ev ha hb) (ev_bind (impl_Times.ev hb ha) (ev_pos (mul_comm ha hb) (ev_bind (impl_Times.ev ha .one) ?_))))))
    rw [mul_one ha, show (a != a) = false by simp]
    refine Ev.step (fun k => laws_FnField.j0.eq_2 _ _ _ _ _ k) (ev_neg (by simp) ?_)
    refine ev_bind (impl_Times.ev ha hb) (ev_bind (impl_Times.ev (ha.mul b) hc) (ev_bind (impl_Times.ev hb hc) (ev_bind (impl_Times.ev ha (hb.mul c)) (ev_pos (mul_assoc ha hb hc) ?_))))
    rw [xor_u8 hb hc]
    refine ev_bind (impl_Times.ev ha (hb.gx hc)) (ev_bind (impl_Times.ev ha hb) (ev_bind (impl_Times.ev ha hc) ?_))
    rw [xor_u8 (ha.mul b) (ha.mul c), mul_gx, show (gx (mul a b) (mul a c) != gx (mul a b) (mul a c)) = false by simp]
    refine Ev.step (fun k => laws_FnField.j1.eq_2 _ _ _ _ k) (ev_neg (by simp) ?_)
    have hp : impl_Power.val c n = spec_Power.val c n := rfl
    have hj2 : Ev (fun k => laws_FnField.j2 k a c n false) true := by
      refine Ev.step (fun k => laws_FnField.j2.eq_2 _ _ _ _ k) (ev_neg (by simp) ?_)
      refine ev_bind (impl_Power.ev hc n) (ev_bind (spec_Power.ev hc n) ?_)
      rw [hp]
      by_cases hz0 : a = 0
      · subst hz0
        refine ev_bind impl_LogOf.ev_zero (ev_bind spec_LogOf.ev_zero ?_)
        refine ev_neg (by simp) (ev_pos rfl (ev_neg (by simp) (ev_pos rfl ?_)))
        refine Ev.step (fun k => laws_FnField.j3.eq_2 _ _ _ _ k) (ev_neg (by simp) (ev_neg (by simp) (ev_now (by simp))))
      · obtain ⟨m, hm, rfl⟩ := ha.nat
        obtain ⟨t, ht, e, hl⟩ := first_log hm (by omega)
        refine ev_bind (impl_LogOf.ev (by omega) hz0 e hl) (ev_bind (spec_LogOf.ev (by omega) hz0 e hl) ?_)
        refine ev_neg (by simp) (ev_pos rfl (ev_neg (by simp) (ev_pos rfl ?_)))
        have hne : ((m : Int) != 0) = true := bne_iff_ne.2 hz0
        rw [hne]
        refine Ev.step (fun k => laws_FnField.j3.eq_2 _ _ _ _ k) (ev_neg (by simp) (ev_pos rfl ?_))
        refine ev_bind (impl_Power.ev byte3 (t : Int)) ?_
        have hv : impl_Power.val 3 (t : Int) = (pow 3 t, true) := by
          unfold impl_Power.val
          rw [if_pos ⟨by omega, by omega⟩, Int.toNat_natCast]
        rw [hv]
        refine ev_pos rfl (ev_pos e (ev_now ?_))
        rw [decide_eq_true (by omega)]
    by_cases hz0 : a = 0
    · exact ev_pos hz0 hj2
    · refine ev_neg hz0 (ev_bind (impl_Inverse.ev ha) (ev_bind (impl_Times.ev ha ha.inv) (ev_pos (mul_inv ha hz0) (ev_bind (impl_Inverse.ev ha) (ev_bind (spec_Inverse.ev ha) ?_)))))
      rw [show (inv a != inv a) = false by simp]
      exact hj2

end Go.Proofs.Ytelkciakdhiicaa.Pure
