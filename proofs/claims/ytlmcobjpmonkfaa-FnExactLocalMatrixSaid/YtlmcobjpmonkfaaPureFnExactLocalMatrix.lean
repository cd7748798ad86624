/- The given program's LocalMatrix returns what the reference's LocalMatrix returns, for all codes, and what it returns is its own; there is no condition. -/
import Derived.Test.YtlmcobjpmonkfaaPFnExactLocalMatrixx
import Derived.Test.YtlmcobjpmonkfaaWalkFnExactLocalMatrix
import Derived.Test.YtlmcobjpmonkfaaKit
import Derived.Test.YtlmcobjpmonkfaaTxt
namespace Go.Proofs.Ytlmcobjpmonkfaa.Pure
open Go.RowKit Go.Proofs.Ytlmcobjpmonkfaa.PFnExactLocalMatrix Go.Proofs.YtlmcobjpmonkfaaW.PrintWords Go.Proofs.YtlmcobjpmonkfaaW.PrintLast Go.Proofs.Ytlmcobjpmonkfaa.Gf Go.Proofs.Ytlmcobjpmonkfaa.Kit Go.Proofs.Ytlmcobjpmonkfaa.KitW
set_option linter.unusedVariables false
set_option linter.unusedSimpArgs false

theorem rdSS (l : List (List Int)) (i : Nat) (h : i < l.length) : rd_L1 l (i : Int) = l[i] := by unfold rd_L1; simp [List.getD, h]
theorem rdSS0 (l : List (List Int)) (i : Int) : rd_L1 l i = l.getD i.toNat [] := rfl
theorem impl_Times.ev_l0 (b : Nat) (hb : b < 256) : ∀ (n i o x : Nat), i + n = 8 → o < 256 → x < 256 →
    Ev (fun k => impl_Times.l0 k (b : Int) (o : Int) (i : Int) (x : Int)) ((T n o x (b / 2 ^ i) : Nat) : Int)
  | 0, i, o, x, hi, ho, hx => by
    refine Ev.step (fun k => impl_Times.l0.eq_2 _ _ _ _ k) ?_
    refine ev_neg (by omega) (ev_now ?_)
    simp only [T]
    omega
  | n + 1, i, o, x, hi, ho, hx => by
    refine Ev.step (fun k => impl_Times.l0.eq_2 _ _ _ _ k) ?_
    refine ev_pos (by omega) (ev_pos (by omega) ?_)
    have e1 : shr .u8 (b : Int) (i : Int) = ((b / 2 ^ i : Nat) : Int) := by
      unfold shr
      rw [Nat.min_eq_left (by simp only [IntKind.bits]; omega)]
      simp
    have hd : b / 2 ^ i < 256 := Nat.lt_of_le_of_lt (Nat.div_le_self _ _) hb
    have e2 : wrap64 ((x : Int) * 2) = ((2 * x : Nat) : Int) := by rw [wrap_id (by omega) (by omega)]; omega
    have e3 : wrap64 ((i : Int) + 1) = ((i + 1 : Nat) : Int) := by rw [wrap_id (by omega) (by omega)]; omega
    rw [e1, and1_u8 hd, e2, e3]
    have e4 : Go.bits .xor .i64 (o : Int) (x : Int) = ((o ^^^ x : Nat) : Int) := xor_i64 (by omega) (by omega)
    have e5 : Go.bits .xor .i64 ((2 * x : Nat) : Int) 283 = ((2 * x ^^^ 283 : Nat) : Int) := xor_i64 (m := 2 * x) (n := 283) (by omega) (by omega)
    have e6 : b / 2 ^ i / 2 = b / 2 ^ (i + 1) := by rw [Nat.div_div_eq_div_mul, Nat.pow_succ]
    rw [e4, e5]
    have hT : T (n + 1) o x (b / 2 ^ i) = T n (if b / 2 ^ i % 2 = 1 then o ^^^ x else o) (xt x) (b / 2 ^ (i + 1)) := by rw [T, e6]
    rw [hT]
    have hxt := xt_lt hx
    have hox := xor_lt ho hx
    by_cases h1 : b / 2 ^ i % 2 = 1
    · rw [if_pos h1]
      refine ev_pos (by omega) ?_
      by_cases h2 : 2 * x > 255
      · refine ev_pos (by omega) ?_
        have : xt x = 2 * x ^^^ 283 := by unfold xt; rw [if_pos h2]
        rw [this] at hxt ⊢
        exact impl_Times.ev_l0 b hb n (i + 1) _ _ (by omega) hox hxt
      · refine ev_neg (by omega) ?_
        have : xt x = 2 * x := by unfold xt; rw [if_neg h2]
        rw [this] at hxt ⊢
        exact impl_Times.ev_l0 b hb n (i + 1) _ _ (by omega) hox hxt
    · rw [if_neg h1]
      refine ev_neg (by omega) ?_
      by_cases h2 : 2 * x > 255
      · refine ev_pos (by omega) ?_
        have : xt x = 2 * x ^^^ 283 := by unfold xt; rw [if_pos h2]
        rw [this] at hxt ⊢
        exact impl_Times.ev_l0 b hb n (i + 1) _ _ (by omega) ho hxt
      · refine ev_neg (by omega) ?_
        have : xt x = 2 * x := by unfold xt; rw [if_neg h2]
        rw [this] at hxt ⊢
        exact impl_Times.ev_l0 b hb n (i + 1) _ _ (by omega) ho hxt
theorem impl_Times.ev {a b : Int} (ha : Byte a) (hb : Byte b) : Ev (fun k => impl_Times.f k a b) (mul a b) := by
  obtain ⟨m, hm, rfl⟩ := ha.nat
  obtain ⟨n, hn, rfl⟩ := hb.nat
  unfold impl_Times.f
  rw [wrap_id (by omega) (by omega)]
  have h := impl_Times.ev_l0 n hn 8 0 0 m rfl (by decide) hm
  exact ev_eq h (by unfold Gf.mul gm; simp)

theorem impl_power.ev_l0 : ∀ (N n : Nat) (a o : Int), n ≤ N → n < 4294967296 → Byte a → Byte o → Ev (fun k => impl_power.l0 k a (n : Int) o) (mul o (pow a n)) := by
  intro N
  induction N with
  | zero =>
    intro n a o hN hn ha ho
    obtain rfl : n = 0 := by omega
    refine Ev.step (fun k => impl_power.l0.eq_2 _ _ _ k) ?_
    exact ev_neg (by omega) (ev_now (by rw [pow_zero, mul_one ho]))
  | succ N ih =>
    intro n a o hN hn ha ho
    refine Ev.step (fun k => impl_power.l0.eq_2 _ _ _ k) ?_
    by_cases h0 : n = 0
    · subst h0
      exact ev_neg (by omega) (ev_now (by rw [pow_zero, mul_one ho]))
    refine ev_pos (by omega) ?_
    have e : ((n : Int) / 2) = ((n / 2 : Nat) : Int) := by omega
    have haa := Byte.mul ha a
    have hsq : pow (mul a a) (n / 2) = pow a (2 * (n / 2)) := by rw [pow_mul ha, pow_two ha]
    rw [and1_i64 hn, e]
    by_cases h1 : n % 2 = 1
    · refine ev_pos (by omega) ?_
      refine ev_bind (impl_Times.ev ho ha) (ev_bind (impl_Times.ev ha ha) ?_)
      refine ev_eq (ih (n / 2) _ _ (by omega) (by omega) haa (Byte.mul ho a)) ?_
      have hn2 : n = 1 + 2 * (n / 2) := by omega
      rw [hsq, mul_assoc ho ha (Byte.pow ha _)]
      conv => rhs; rw [hn2, pow_add ha, pow_one ha]
    · refine ev_neg (by omega) ?_
      refine ev_bind (impl_Times.ev ha ha) ?_
      refine ev_eq (ih (n / 2) _ _ (by omega) (by omega) haa ho) ?_
      have hn2 : n = 2 * (n / 2) := by omega
      rw [hsq, ← hn2]
theorem impl_power.ev {a : Int} (ha : Byte a) (n : Nat) (hn : n < 4294967296) : Ev (fun k => impl_power.f k a (n : Int)) (pow a n) := by
  unfold impl_power.f
  refine ev_eq (impl_power.ev_l0 n n a 1 (Nat.le_refl _) hn ha .one) ?_
  exact one_mul (Byte.pow ha n)

theorem impl_identity.ev_l0 (n : Nat) (hn : n ≤ 1048576) : ∀ (d i : Nat) (o : List (List Int)), i + d = n → o = (idM n).take i → Ev (fun k => impl_identity.l0 k (n : Int) o (n : Int) (i : Int)) (idM n)
  | 0, i, o, hi, ho => by
    refine Ev.step (fun k => impl_identity.l0.eq_2 _ _ _ _ k) ?_
    refine ev_neg (by omega) (ev_now ?_)
    rw [ho, List.take_of_length_le (by simp [idM]; omega)]
  | d + 1, i, o, hi, ho => by
    have hl : o.length = i := by rw [ho, List.length_take]; simp [idM]; omega
    refine Ev.step (fun k => impl_identity.l0.eq_2 _ _ _ _ k) ?_
    simp only [Option.bind_some, Int.toNat_natCast, List.length_replicate]
    refine ev_pos (by omega) (ev_pos (by omega) (ev_pos (by omega) (ev_pos (by omega) (ev_pos (by omega) (ev_pos (by omega) ?_)))))
    rw [inc (by omega)]
    refine impl_identity.ev_l0 n hn d (i + 1) _ (by omega) ?_
    rw [List.take_succ_eq_append_getElem (by simp [idM]; omega), ← ho]
    simp [idM]
theorem impl_identity.ev (n : Nat) (hn : n ≤ 1048576) : Ev (fun k => impl_identity.f k (n : Int)) (idM n) := by
  unfold impl_identity.f
  exact impl_identity.ev_l0 n hn n 0 [] (by omega) rfl

theorem impl_filled.ev_l1 {E : Nat → Int → Int → Option Int} (n m : Nat) (f : Nat → Nat → Int) (hm : m ≤ 1048576) (i : Nat) (hE : ∀ j, j < m → Ev (fun k => E k (i : Int) (j : Int)) (f i j)) (out : List (List Int)) (ho : out.length < 5864062014805) {R : List (List Int)}
    (K : Ev (fun k => impl_filled.l0 E k (m : Int) (out ++ [(List.range m).map (f i)]) (n : Int) (wrap64 ((i : Int) + 1))) R) : ∀ (d j : Nat) (o : List Int), j + d = m → o = (List.range j).map (f i) →
    Ev (fun k => impl_filled.l1 E k (m : Int) out (i : Int) o (n : Int) (i : Int) (m : Int) (j : Int)) R
  | 0, j, o, hj, hoj => by
    refine Ev.step (fun k => impl_filled.l1.eq_2 _ _ _ _ _ _ _ _ _ k) ?_
    refine ev_neg (by omega) (ev_pos ho ?_)
    rw [hoj, show j = m by omega]
    exact K
  | d + 1, j, o, hj, hoj => by
    have hol : o.length = j := by rw [hoj]; simp
    refine Ev.step (fun k => impl_filled.l1.eq_2 _ _ _ _ _ _ _ _ _ k) ?_
    refine ev_pos (by omega) (ev_bind (hE j (by omega)) (ev_pos (by omega) ?_))
    rw [inc (by omega)]
    refine impl_filled.ev_l1 n m f hm i hE out ho K d (j + 1) _ (by omega) ?_
    rw [hoj, List.range_succ, List.map_append]
    rfl
theorem impl_filled.ev_l0 {E : Nat → Int → Int → Option Int} (n m : Nat) (f : Nat → Nat → Int) (hn : n ≤ 1048576) (hm : m ≤ 1048576) (hE : ∀ i, i < n → ∀ j, j < m → Ev (fun k => E k (i : Int) (j : Int)) (f i j)) : ∀ (d i : Nat) (o : List (List Int)), i + d = n → o = tab i m f →
    Ev (fun k => impl_filled.l0 E k (m : Int) o (n : Int) (i : Int)) (tab n m f)
  | 0, i, o, hi, ho => by
    refine Ev.step (fun k => impl_filled.l0.eq_2 _ _ _ _ _ k) ?_
    refine ev_neg (by omega) (ev_now ?_)
    rw [ho, show i = n by omega]
  | d + 1, i, o, hi, ho => by
    have hol : o.length = i := by rw [ho, tab_length]
    have ih := impl_filled.ev_l0 n m f hn hm hE d (i + 1) (o ++ [(List.range m).map (f i)]) (by omega) (by
      rw [ho]
      unfold tab
      rw [List.range_succ, List.map_append]
      rfl)
    refine Ev.step (fun k => impl_filled.l0.eq_2 _ _ _ _ _ k) ?_
    refine ev_pos (by omega) ?_
    exact impl_filled.ev_l1 n m f hm i (hE i (by omega)) o (by omega) (by rw [inc (by omega)]; exact ih) m 0 [] (by omega) rfl
theorem impl_filled.ev {E : Nat → Int → Int → Option Int} (n m : Nat) (f : Nat → Nat → Int) (hn : n ≤ 1048576) (hm : m ≤ 1048576) (hE : ∀ i, i < n → ∀ j, j < m → Ev (fun k => E k (i : Int) (j : Int)) (f i j)) : Ev (fun k => impl_filled.f E k (n : Int) (m : Int)) (tab n m f) := by
  unfold impl_filled.f
  exact impl_filled.ev_l0 n m f hn hm hE n 0 [] (by omega) rfl

theorem impl_cauchy.ev (n m : Nat) (hn : n ≤ 1048576) (hm : m ≤ 1048576) : Ev (fun k => impl_cauchy.f k (n : Int) (m : Int)) (tab n m (cauAt m)) := by
  unfold impl_cauchy.f
  refine impl_filled.ev n m (cauAt m) hn hm (fun i hi j hj => ?_)
  unfold impl_cauchy.E
  exact ev_eq (impl_power.ev (mod_byte _) 254 (by decide)) (inv_pow _).symm

theorem impl_Local_data.ev {g e m : Int} (h : GoodLocal g e m) : impl_Local_data.f g e m = some (g * e) := by
  unfold impl_Local_data.f
  rw [(small_mul h.1).1]

theorem spec_l1In.ev (a b c : Int) : spec_l1In.f a b c = some (decide (b ≤ a ∧ a ≤ c)) := by
  unfold spec_l1In.f
  by_cases h : a ≥ b
  · rw [if_pos h]; simp [h]
  · rw [if_neg h]; simp; omega

theorem spec_GoodLocal.ev (g e m : Int) : spec_GoodLocal.f g e m = some (decide (GoodLocal g e m)) := by
  unfold spec_GoodLocal.f
  simp only [spec_l1In.ev, Option.bind_some, decide_eq_true_eq]
  by_cases h1 : 1 ≤ g ∧ g ≤ 4
  · by_cases h2 : 1 ≤ e ∧ e ≤ 4
    · have em := (small_mul ⟨h1, h2⟩).1
      rw [em]
      by_cases h3 : g * e ≤ 8 <;> simp [h1, h2, h3]
    · simp [h1, h2]
  · simp [h1]

theorem spec_l4Data.ev {g e m : Int} (h : GoodLocal g e m) : spec_l4Data.f g e m = some (g * e) := by
  unfold spec_l4Data.f
  rw [(small_mul h.1).1]

theorem spec_l2Blank.ev_l0 (n m : Nat) (hn : n ≤ 1048576) (hm : m ≤ 1048576) : ∀ (d i : Nat), i + d = n → Ev (fun k => spec_l2Blank.l0 k (n : Int) (m : Int) (i : Int) (blankM i m)) (blankM n m)
  | 0, i, hi => by
    obtain rfl : i = n := by omega
    refine Ev.step (fun k => spec_l2Blank.l0.eq_2 _ _ _ _ k) ?_
    exact ev_neg (by omega) (ev_now rfl)
  | d + 1, i, hi => by
    have ih := spec_l2Blank.ev_l0 n m hn hm d (i + 1) (by omega)
    refine Ev.step (fun k => spec_l2Blank.l0.eq_2 _ _ _ _ k) ?_
    refine ev_pos (by omega) (ev_pos (by omega) (ev_pos (by omega) (ev_pos (by simp [blankM]; omega) ?_)))
    rw [inc (by omega), Int.toNat_natCast]
    have e : blankM i m ++ [List.replicate m 0] = blankM (i + 1) m := by
      unfold blankM; rw [List.replicate_succ']
    rw [e]
    exact ih
theorem spec_l2Blank.ev (n m : Nat) (hn : n ≤ 1048576) (hm : m ≤ 1048576) : Ev (fun k => spec_l2Blank.f k (n : Int) (m : Int)) (blankM n m) := by
  unfold spec_l2Blank.f
  exact spec_l2Blank.ev_l0 n m hn hm n 0 (by omega)

def idPart (n i : Nat) : List (List Int) := (List.range n).map fun j => if j < i then (List.replicate n 0).set j 1 else List.replicate n 0
theorem idPart_length (n i : Nat) : (idPart n i).length = n := by simp [idPart]
theorem idPart_zero (n : Nat) : idPart n 0 = blankM n n := by
  apply List.ext_getElem
  · simp [idPart, blankM]
  · intro j h1 h2; simp [idPart, blankM]
theorem idPart_all (n : Nat) : idPart n n = idM n := by
  apply List.ext_getElem
  · simp [idPart, idM]
  · intro j h1 h2
    have : j < n := by simpa [idPart] using h1
    simp [idPart, idM, this]
theorem idPart_succ (n i : Nat) (hi : i < n) : (idPart n i).set i ((List.replicate n 0).set i 1) = idPart n (i + 1) := by
  apply List.ext_getElem
  · simp [idPart]
  · intro j h1 h2
    rw [List.getElem_set]
    by_cases e : i = j
    · subst e
      simp [idPart]
    · rw [if_neg e]
      simp only [idPart, List.getElem_map, List.getElem_range]
      by_cases h : j < i
      · rw [if_pos h, if_pos (by omega)]
      · rw [if_neg h, if_neg (by omega)]
theorem spec_l2Identity.ev_l0 (n : Nat) (hn : n ≤ 1048576) : ∀ (d i : Nat), i + d = n → Ev (fun k => spec_l2Identity.l0 k (n : Int) (i : Int) (idPart n i)) (idM n)
  | 0, i, hi => by
    obtain rfl : i = n := by omega
    refine Ev.step (fun k => spec_l2Identity.l0.eq_2 _ _ _ k) ?_
    exact ev_neg (by omega) (ev_now (idPart_all i))
  | d + 1, i, hi => by
    have hl := idPart_length n i
    have hg : rd_L1 (idPart n i) (i : Int) = List.replicate n 0 := by
      rw [rdSS _ i (by omega)]
      simp [idPart]
    have ih := spec_l2Identity.ev_l0 n hn d (i + 1) (by omega)
    refine Ev.step (fun k => spec_l2Identity.l0.eq_2 _ _ _ k) ?_
    rw [hg]
    refine ev_pos (by omega) (ev_pos (by omega) (ev_pos (by omega) (ev_pos (by simp; omega) ?_)))
    rw [inc (by omega), Int.toNat_natCast, idPart_succ n i (by omega)]
    exact ih
theorem spec_l2Identity.ev (n : Nat) (hn : n ≤ 1048576) : Ev (fun k => spec_l2Identity.f k (n : Int)) (idM n) := by
  unfold spec_l2Identity.f
  refine ev_bind (spec_l2Blank.ev n n hn hn) ?_
  have e : ((blankM n n).length : Int) = (n : Int) := by simp [blankM]
  rw [e, ← idPart_zero]
  exact spec_l2Identity.ev_l0 n hn n 0 (by omega)

theorem spec_l1Times.ev_l0 : ∀ (n o x y : Nat), y < 2 ^ n → n ≤ 8 → o < 256 → x < 256 →
    Ev (fun k => spec_l1Times.l0 k (o : Int) (x : Int) (y : Int)) ((T n o x y : Nat) : Int)
  | 0, o, x, y, hy, _, ho, hx => by
    refine Ev.step (fun k => spec_l1Times.l0.eq_2 _ _ _ k) ?_
    have : y = 0 := by simpa using hy
    subst this
    refine ev_neg (by decide) (ev_now ?_)
    simp only [T]
    omega
  | n + 1, o, x, y, hy, hn, ho, hx => by
    have hy8 : y < 256 := Nat.lt_of_lt_of_le hy (Nat.pow_le_pow_right (n := 2) (by decide) hn)
    by_cases h0 : y = 0
    · subst h0
      refine Ev.step (fun k => spec_l1Times.l0.eq_2 _ _ _ k) ?_
      refine ev_neg (by decide) (ev_now ?_)
      rw [T_zero]
      omega
    refine Ev.step (fun k => spec_l1Times.l0.eq_2 _ _ _ k) ?_
    refine ev_pos (by omega) ?_
    have e2 : wrap64 ((x : Int) * 2) = ((2 * x : Nat) : Int) := by rw [wrap_id (by omega) (by omega)]; omega
    have e3 : ((y : Int) / 2) = ((y / 2 : Nat) : Int) := by omega
    have e4 : Go.bits .xor .i64 (o : Int) (x : Int) = ((o ^^^ x : Nat) : Int) := xor_i64 (by omega) (by omega)
    have e5 : Go.bits .xor .i64 ((2 * x : Nat) : Int) 283 = ((2 * x ^^^ 283 : Nat) : Int) := xor_i64 (m := 2 * x) (n := 283) (by omega) (by omega)
    rw [and1_i64 (by omega), e2, e3, e4, e5]
    have hT : T (n + 1) o x y = T n (if y % 2 = 1 then o ^^^ x else o) (xt x) (y / 2) := by rw [T]
    rw [hT]
    have hxt := xt_lt hx
    have hox := xor_lt ho hx
    have hh : y / 2 < 2 ^ n := by rw [Nat.pow_succ] at hy; omega
    by_cases h1 : y % 2 = 1
    · rw [if_pos h1]
      refine ev_pos (by omega) ?_
      by_cases h2 : 2 * x > 255
      · refine ev_pos (by omega) ?_
        have : xt x = 2 * x ^^^ 283 := by unfold xt; rw [if_pos h2]
        rw [this] at hxt ⊢
        exact spec_l1Times.ev_l0 n _ _ _ hh (by omega) hox hxt
      · refine ev_neg (by omega) ?_
        have : xt x = 2 * x := by unfold xt; rw [if_neg h2]
        rw [this] at hxt ⊢
        exact spec_l1Times.ev_l0 n _ _ _ hh (by omega) hox hxt
    · rw [if_neg h1]
      refine ev_neg (by omega) ?_
      by_cases h2 : 2 * x > 255
      · refine ev_pos (by omega) ?_
        have : xt x = 2 * x ^^^ 283 := by unfold xt; rw [if_pos h2]
        rw [this] at hxt ⊢
        exact spec_l1Times.ev_l0 n _ _ _ hh (by omega) ho hxt
      · refine ev_neg (by omega) ?_
        have : xt x = 2 * x := by unfold xt; rw [if_neg h2]
        rw [this] at hxt ⊢
        exact spec_l1Times.ev_l0 n _ _ _ hh (by omega) ho hxt
theorem spec_l1Times.ev {a b : Int} (ha : Byte a) (hb : Byte b) : Ev (fun k => spec_l1Times.f k a b) (mul a b) := by
  obtain ⟨m, hm, rfl⟩ := ha.nat
  obtain ⟨n, hn, rfl⟩ := hb.nat
  unfold spec_l1Times.f
  rw [wrap_id (i := (m : Int)) (by omega) (by omega), wrap_id (i := (n : Int)) (by omega) (by omega)]
  have h := spec_l1Times.ev_l0 8 0 m n hn (Nat.le_refl _) (by decide) hm
  exact ev_eq h (by unfold Gf.mul gm; simp)

theorem spec_l1Power.ev_l0 (a : Int) (ha : Byte a) : ∀ (n m : Nat), n < 4611686018427387904 → Ev (fun k => spec_l1Power.l0 k a (n : Int) (pow a m)) (pow a (m + n))
  | 0, m, _ => by
    refine Ev.step (fun k => spec_l1Power.l0.eq_2 _ _ _ k) ?_
    exact ev_neg (by omega) (ev_now rfl)
  | n + 1, m, hn => by
    refine Ev.step (fun k => spec_l1Power.l0.eq_2 _ _ _ k) ?_
    refine ev_pos (by omega) ?_
    refine ev_bind (spec_l1Times.ev (Byte.pow ha m) ha) ?_
    have e : wrap64 (((n + 1 : Nat) : Int) - 1) = (n : Int) := by unfold wrap64; omega
    rw [e, ← pow_succ]
    refine ev_eq (spec_l1Power.ev_l0 a ha n (m + 1) (by omega)) ?_
    rw [Nat.add_right_comm, Nat.add_assoc]
theorem spec_l1Power.ev {a : Int} (ha : Byte a) (n : Nat) (hn : n < 4611686018427387904) : Ev (fun k => spec_l1Power.f k a (n : Int)) (pow a n) := by
  unfold spec_l1Power.f
  have := spec_l1Power.ev_l0 a ha n 0 hn
  rw [pow_zero, Nat.zero_add] at this
  exact this

theorem spec_l1Inverse.ev {a : Int} (ha : Byte a) : Ev (fun k => spec_l1Inverse.f k a) (inv a) := by
  unfold spec_l1Inverse.f
  by_cases h : a = 0
  · subst h
    exact ev_pos rfl (ev_now inv_zero.symm)
  · exact ev_neg h (ev_bind (spec_l1Power.ev ha 254 (by decide)) (ev_now (inv_pow a).symm))

theorem spec_l2Cauchy.ev_l1 (n m : Nat) (hn : n ≤ 1048576) (hm : m ≤ 1048576) (i : Nat) (hi : i < n) {R : List (List Int)}
    (K : Ev (fun k => spec_l2Cauchy.l0 k (m : Int) (n : Int) (wrap64 ((i : Int) + 1)) (filPart n m (cauAt m) (i + 1) 0)) R) : ∀ (d j : Nat), j + d = m →
    Ev (fun k => spec_l2Cauchy.l1 k (m : Int) (i : Int) (n : Int) (i : Int) (m : Int) (j : Int) (filPart n m (cauAt m) i j)) R
  | 0, j, hj => by
    refine Ev.step (fun k => spec_l2Cauchy.l1.eq_2 _ _ _ _ _ _ _ k) ?_
    refine ev_neg (by omega) ?_
    rw [show j = m by omega, filPart_next]
    exact K
  | d + 1, j, hj => by
    have hl := filPart_length n m (cauAt m) i j
    have hr := filPart_row (f := cauAt m) (m := m) (i := i) (j := j) hi
    refine Ev.step (fun k => spec_l2Cauchy.l1.eq_2 _ _ _ _ _ _ _ k) ?_
    simp only [rdSS0, Int.toNat_natCast]
    refine ev_pos (by omega) (ev_pos (by omega) (ev_pos (by omega) ?_))
    refine ev_bind (spec_l1Inverse.ev (mod_byte _)) ?_
    refine ev_pos (by omega) (ev_pos (by omega) ?_)
    rw [inc (by omega), show inv ((Go.bits .xor .i64 (wrap64 ((m : Int) + (i : Int))) (j : Int)) % 256) = cauAt m i j from rfl, filPart_set (cauAt m) hi]
    exact spec_l2Cauchy.ev_l1 n m hn hm i hi K d (j + 1) (by omega)
theorem spec_l2Cauchy.ev_l0 (n m : Nat) (hn : n ≤ 1048576) (hm : m ≤ 1048576) : ∀ (d i : Nat), i + d = n → Ev (fun k => spec_l2Cauchy.l0 k (m : Int) (n : Int) (i : Int) (filPart n m (cauAt m) i 0)) (tab n m (cauAt m))
  | 0, i, hi => by
    refine Ev.step (fun k => spec_l2Cauchy.l0.eq_2 _ _ _ _ k) ?_
    refine ev_neg (by omega) (ev_now ?_)
    rw [show i = n by omega, filPart_all]
  | d + 1, i, hi => by
    have hl := filPart_length n m (cauAt m) i 0
    have hr := filPart_row (f := cauAt m) (m := m) (i := i) (j := 0) (show i < n by omega)
    have ih := spec_l2Cauchy.ev_l0 n m hn hm d (i + 1) (by omega)
    refine Ev.step (fun k => spec_l2Cauchy.l0.eq_2 _ _ _ _ k) ?_
    simp only [rdSS0, Int.toNat_natCast]
    refine ev_pos (by omega) (ev_pos (by omega) (ev_pos (by omega) ?_))
    rw [hr]
    exact spec_l2Cauchy.ev_l1 n m hn hm i (by omega) (by rw [inc (by omega)]; exact ih) m 0 (by omega)
theorem spec_l2Cauchy.ev (n m : Nat) (hn : n ≤ 1048576) (hm : m ≤ 1048576) : Ev (fun k => spec_l2Cauchy.f k (n : Int) (m : Int)) (tab n m (cauAt m)) := by
  unfold spec_l2Cauchy.f
  refine ev_bind (spec_l2Blank.ev n m (by omega) (by omega)) ?_
  have e : ((blankM n m).length : Int) = (n : Int) := by simp [blankM]
  rw [e, filPart_zero n m (cauAt m)]
  exact spec_l2Cauchy.ev_l0 n m hn hm n 0 (by omega)

theorem spec_l4Matrix.ev_l1 (g e m n i : Nat) (he : 1 ≤ e ∧ e ≤ 4) (hg : g ≤ 4) (hi : i < g) (hn : n = g * e) (hn8 : n ≤ 8) (R : List (List Int)) (hR : R.length ≤ 100) {Z : List (List Int)}
    (K : Ev (fun k => spec_l4Matrix.l0 k (n : Int) (wrap64 ((i : Int) + 1)) (g : Int) (e : Int) (m : Int) (R ++ [(List.range n).map (grpAt e i)])) Z) : ∀ (d t : Nat), t + d = e →
    Ev (fun k => spec_l4Matrix.l1 k (n : Int) (i : Int) (grpPart n e i t) (t : Int) (g : Int) (e : Int) (m : Int) R) Z
  | 0, t, ht => by
    refine Ev.step (fun k => spec_l4Matrix.l1.eq_2 _ _ _ _ _ _ _ _ k) ?_
    refine ev_neg (by omega) (ev_pos (by omega) ?_)
    rw [show t = e by omega, grpPart_all n e i (by omega)]
    exact K
  | d + 1, t, ht => by
    have hl := grpPart_length n e i t
    have hie : i * e + e ≤ n := by rw [hn, ← Nat.succ_mul]; exact Nat.mul_le_mul_right _ hi
    have e1 : (i : Int) * (e : Int) = ((i * e : Nat) : Int) := by rw [Int.natCast_mul]
    refine Ev.step (fun k => spec_l4Matrix.l1.eq_2 _ _ _ _ _ _ _ _ k) ?_
    rw [e1, wrap_id (i := ((i * e : Nat) : Int)) (by omega) (by omega), show ((i * e : Nat) : Int) + (t : Int) = ((i * e + t : Nat) : Int) from (Int.natCast_add _ _).symm, wrap_id (i := ((i * e + t : Nat) : Int)) (by omega) (by omega)]
    clear e1
    refine ev_pos (by omega) (ev_pos (by omega) (ev_pos (by omega) ?_))
    rw [inc (by omega), Int.toNat_natCast, grpPart_set]
    exact spec_l4Matrix.ev_l1 g e m n i he hg hi hn hn8 R hR K d (t + 1) (by omega)
theorem spec_l4Matrix.ev_l0 (g e m n : Nat) (he : 1 ≤ e ∧ e ≤ 4) (hg : g ≤ 4) (hm : m ≤ 4) (hn : n = g * e) (hn8 : n ≤ 8) : ∀ (d i : Nat), i + d = g →
    Ev (fun k => spec_l4Matrix.l0 k (n : Int) (i : Int) (g : Int) (e : Int) (m : Int) (idM n ++ tab i n (grpAt e))) (localM g e m)
  | 0, i, hi => by
    refine Ev.step (fun k => spec_l4Matrix.l0.eq_2 _ _ _ _ _ _ k) ?_
    refine ev_neg (by omega) (ev_bind (spec_l2Cauchy.ev m n (by omega) (by omega)) (ev_pos (by rw [List.length_append, idM_length, tab_length, tab_length]; omega) (ev_now ?_)))
    rw [show i = g by omega, hn]; rfl
  | d + 1, i, hi => by
    have ih := spec_l4Matrix.ev_l0 g e m n he hg hm hn hn8 d (i + 1) (by omega)
    refine Ev.step (fun k => spec_l4Matrix.l0.eq_2 _ _ _ _ _ _ k) ?_
    refine ev_pos (by omega) (ev_pos (by omega) (ev_pos (by omega) ?_))
    rw [Int.toNat_natCast, grpPart_zero n e i]
    refine spec_l4Matrix.ev_l1 g e m n i he hg (by omega) hn hn8 _ (by rw [List.length_append, idM_length, tab_length]; omega) ?_ e 0 (by omega)
    rw [inc (by omega), List.append_assoc]
    have e1 : tab i n (grpAt e) ++ [(List.range n).map (grpAt e i)] = tab (i + 1) n (grpAt e) := by
      unfold tab
      rw [List.range_succ, List.map_append]; rfl
    rw [e1]
    exact ih
theorem spec_l4Matrix.ev {g e m : Nat} (h : GoodLocal (g : Int) (e : Int) (m : Int)) : Ev (fun k => spec_l4Matrix.f k (g : Int) (e : Int) (m : Int)) (localM g e m) := by
  unfold spec_l4Matrix.f
  have hm := (small_mul h.1).1
  obtain ⟨⟨⟨h1, h2⟩, h3, h4⟩, h5, h6, h7⟩ := h
  have e1 : (g : Int) * (e : Int) = ((g * e : Nat) : Int) := by rw [Int.natCast_mul]
  rw [e1] at h5
  unfold spec_l4Data.f
  simp only [Option.bind_some]
  rw [hm, e1]
  refine ev_bind (spec_l2Identity.ev (g * e) (by omega)) ?_
  have h0 := spec_l4Matrix.ev_l0 g e m (g * e) (by omega) (by omega) (by omega) rfl (by omega) g 0 (by omega)
  have e2 : tab 0 (g * e) (grpAt e) = [] := rfl
  rw [e2, List.append_nil] at h0
  exact h0

def localVal (g e m : Int) : List (List Int) × Bool := if GoodLocal g e m then (localM g.toNat e.toNat m.toNat, true) else ([], false)
theorem spec_LocalMatrix.ev (g e m : Int) : Ev (fun q => spec_LocalMatrix.f q g e m) (localVal g e m) := by
  unfold spec_LocalMatrix.f localVal
  simp only [spec_GoodLocal.ev, Option.bind_some, decide_eq_true_eq]
  by_cases h : GoodLocal g e m
  · refine ev_pos h ?_
    rw [if_pos h]
    obtain ⟨a, b, c, rfl, rfl, rfl, _⟩ := GoodLocal_nat h
    exact ev_bind (spec_l4Matrix.ev h) (ev_now rfl)
  · exact ev_neg h (ev_now (if_neg h).symm)

theorem laws_toLocal.ev (g e m : Int) : laws_toLocal.f g e m = some (g, e, m) := rfl

theorem impl_within.ev (a b c : Int) : impl_within.f a b c = some (decide (b ≤ a ∧ a ≤ c)) := by
  unfold impl_within.f
  by_cases h : a ≥ b
  · rw [if_pos h]; simp [h]
  · rw [if_neg h]; simp; omega

theorem impl_GoodLocal.ev (g e m : Int) : impl_GoodLocal.f g e m = some (decide (GoodLocal g e m)) := by
  unfold impl_GoodLocal.f
  simp only [impl_within.ev, Option.bind_some, decide_eq_true_eq]
  by_cases h1 : 1 ≤ g ∧ g ≤ 4
  · by_cases h2 : 1 ≤ e ∧ e ≤ 4
    · have em := (small_mul ⟨h1, h2⟩).1
      rw [em]
      by_cases h3 : g * e ≤ 8 <;> simp [h1, h2, h3]
    · simp [h1, h2]
  · simp [h1]


theorem impl_localRows.ev {g e m : Nat} (h : GoodLocal (g : Int) (e : Int) (m : Int)) : Ev (fun k => impl_localRows.f k (g : Int) (e : Int) (m : Int)) (localM g e m) := by
  unfold impl_localRows.f
  have hm := (small_mul h.1).1
  obtain ⟨⟨⟨h1, h2⟩, h3, h4⟩, h5, h6, h7⟩ := h
  have e1 : (g : Int) * (e : Int) = ((g * e : Nat) : Int) := by rw [Int.natCast_mul]
  rw [e1] at h5
  unfold impl_Local_data.f
  simp only [Option.bind_some]
  rw [hm, e1]
  refine ev_bind (impl_identity.ev (g * e) (by omega)) ?_
  have hgr : Ev (fun k => impl_grpRows.f (e : Int) k (g : Int) ((g * e : Nat) : Int)) (tab g (g * e) (grpAt e)) := by
    unfold impl_grpRows.f
    refine impl_filled.ev g (g * e) (grpAt e) (by omega) (by omega) (fun i hi j hj => ?_)
    unfold impl_grpRows.E
    refine ev_pos (by omega) (ev_now ?_)
    unfold grpAt
    have : (j : Int) / (e : Int) = ((j / e : Nat) : Int) := by rw [Int.natCast_ediv]
    rw [this]
    by_cases c : j / e = i
    · rw [if_pos c, if_pos (by omega)]
    · rw [if_neg c, if_neg (by omega)]
  refine ev_bind hgr (ev_pos (by rw [idM_length, tab_length]; omega) (ev_bind (impl_cauchy.ev m (g * e) (by omega) (by omega)) (ev_pos (by rw [List.length_append, idM_length, tab_length, tab_length]; omega) (ev_now rfl))))

theorem impl_LocalMatrix.ev (g e m : Int) : Ev (fun q => impl_LocalMatrix.f q g e m) (localVal g e m) := by
  unfold impl_LocalMatrix.f localVal
  simp only [impl_GoodLocal.ev, Option.bind_some, decide_eq_true_eq]
  by_cases h : GoodLocal g e m
  · refine ev_pos h ?_
    rw [if_pos h]
    obtain ⟨a, b, c, rfl, rfl, rfl, _⟩ := GoodLocal_nat h
    exact ev_bind (impl_localRows.ev h) (ev_now rfl)
  · exact ev_neg h (ev_now (if_neg h).symm)

theorem laws_eqByteS.ev_l0 (l : List Int) (hl : l.length < 4611686018427387904) : ∀ (n i : Nat), i + n = l.length → Ev (fun k => laws_eqByteS.l0 k l l (i : Int)) true
  | 0, i, hi => by
    refine Ev.step (fun k => laws_eqByteS.l0.eq_2 _ _ _ k) ?_
    exact ev_neg (by omega) (ev_now rfl)
  | n + 1, i, hi => by
    refine Ev.step (fun k => laws_eqByteS.l0.eq_2 _ _ _ k) ?_
    refine ev_pos (by omega) (ev_pos (by omega) (ev_pos (by omega) (ev_pos rfl ?_)))
    rw [inc (by omega)]
    exact laws_eqByteS.ev_l0 l hl n (i + 1) (by omega)
theorem laws_eqByteS.ev (l : List Int) (hl : l.length ≤ 281474976710656) : Ev (fun k => laws_eqByteS.f k l l) true := by
  unfold laws_eqByteS.f
  exact ev_pos rfl (laws_eqByteS.ev_l0 l (by omega) l.length 0 (by omega))

theorem laws_eqByteSS.ev_l0 (l : List (List Int)) (hl : rowsLe 1048576 l) : ∀ (n i : Nat), i + n = l.length → Ev (fun k => laws_eqByteSS.l0 k l l (i : Int)) true
  | 0, i, hi => by
    refine Ev.step (fun k => laws_eqByteSS.l0.eq_2 _ _ _ k) ?_
    exact ev_neg (by omega) (ev_now rfl)
  | n + 1, i, hi => by
    have h1 := hl.1
    have h2 := hl.2 _ (List.getElem_mem (show i < l.length by omega))
    refine Ev.step (fun k => laws_eqByteSS.l0.eq_2 _ _ _ k) ?_
    refine ev_pos (by omega) (ev_pos (by omega) (ev_pos (by omega) ?_))
    rw [rdSS l i (by omega), inc (by omega)]
    exact ev_bind (laws_eqByteS.ev _ (by omega)) (ev_pos rfl (laws_eqByteSS.ev_l0 l hl n (i + 1) (by omega)))
theorem laws_eqByteSS.ev (l : List (List Int)) (hl : rowsLe 1048576 l) : Ev (fun k => laws_eqByteSS.f k l l) true := by
  unfold laws_eqByteSS.f
  exact ev_pos rfl (laws_eqByteSS.ev_l0 l hl l.length 0 (by omega))

theorem laws_eqMatrix.ev (l : List (List Int)) (hl : rowsLe 1048576 l) : Ev (fun k => laws_eqMatrix.f k l l) true := by
  unfold laws_eqMatrix.f
  exact ev_bind (laws_eqByteSS.ev l hl) (ev_pos rfl (ev_now rfl))

theorem laws_markByteS.ev_l0 (a : Int) (m : Nat) (ha : 0 ≤ a) (hm : a + m < 4611686018427387904) : ∀ (n i : Nat) (o : List Int), i + n = m → o.length = m → o.take i = (markB a m).take i →
    Ev (fun k => laws_markByteS.l0 k o (a + (i : Nat)) (i : Int)) (a + (m : Nat), markB a m)
  | 0, i, o, hi, ho, ht => by
    refine Ev.step (fun k => laws_markByteS.l0.eq_2 _ _ _ k) ?_
    refine ev_neg (by omega) (ev_now ?_)
    have hb := markB_length a m
    rw [List.take_of_length_le (by omega), List.take_of_length_le (by omega)] at ht
    subst ht
    have : i = m := by omega
    rw [this]
  | n + 1, i, o, hi, ho, ht => by
    refine Ev.step (fun k => laws_markByteS.l0.eq_2 _ _ _ k) ?_
    refine ev_pos (by omega) (ev_pos (by omega) ?_)
    have e : wrap64 (a + (i : Nat) + 1) = a + ((i + 1 : Nat) : Int) := by unfold wrap64; omega
    rw [inc (by omega), e, Int.toNat_natCast]
    refine laws_markByteS.ev_l0 a m ha hm n (i + 1) _ (by omega) (by simpa using ho) ?_
    have hb := markB_length a m
    rw [take_set_succ _ _ _ (by omega), ht, List.take_succ_eq_append_getElem (by omega), markB_get]
theorem laws_markByteS.ev (l : List Int) (a : Int) (ha : 0 ≤ a) (hm : a + l.length < 4611686018427387904) : Ev (fun k => laws_markByteS.f k l a) (a + (l.length : Nat), markB a l.length) := by
  unfold laws_markByteS.f
  have := laws_markByteS.ev_l0 a l.length ha hm l.length 0 l (by omega) rfl rfl
  simpa using this

theorem laws_heldByteS.ev_l0 (a : Int) (m : Nat) (ha : 0 ≤ a) (hm : a + m < 4611686018427387904) : ∀ (n i : Nat), i + n = m →
    Ev (fun k => laws_heldByteS.l0 k (markB a m) (a + (i : Nat)) (i : Int)) (a + (m : Nat))
  | 0, i, hi => by
    have hb := markB_length a m
    refine Ev.step (fun k => laws_heldByteS.l0.eq_2 _ _ _ k) ?_
    refine ev_neg (by omega) (ev_now ?_)
    have : i = m := by omega
    rw [this]
  | n + 1, i, hi => by
    have hb := markB_length a m
    refine Ev.step (fun k => laws_heldByteS.l0.eq_2 _ _ _ k) ?_
    refine ev_pos (by omega) (ev_pos (by omega) (ev_pos (by rw [rd_get (by omega), markB_get]) ?_))
    have e : wrap64 (a + (i : Nat) + 1) = a + ((i + 1 : Nat) : Int) := by unfold wrap64; omega
    rw [inc (by omega), e]
    exact laws_heldByteS.ev_l0 a m ha hm n (i + 1) (by omega)
theorem laws_heldByteS.ev (a : Int) (m : Nat) (ha : 0 ≤ a) (hm : a + m < 4611686018427387904) : Ev (fun k => laws_heldByteS.f k (markB a m) a) (a + (m : Nat)) := by
  unfold laws_heldByteS.f
  have := laws_heldByteS.ev_l0 a m ha hm m 0 (by omega)
  simpa using this

theorem markSS_get (R : List (List Int)) : ∀ (a : Int) (i : Nat) (h : i < R.length), (markSS a R)[i]'(by rw [markSS_length]; exact h) = markB (a + (totSS (R.take i) : Nat)) (R[i]).length := by
  induction R with
  | nil => intro a i h; simp at h
  | cons r R ih =>
    intro a i h
    cases i with
    | zero => simp [markSS, totSS]
    | succ i =>
      have := ih (a + (r.length : Nat)) i (by simpa using h)
      simp only [markSS, List.getElem_cons_succ, List.take_succ_cons, totSS] at this ⊢
      rw [this]
      congr 1
      omega
theorem laws_heldByteSS.ev_l0 (R : List (List Int)) (a : Int) (ha : 0 ≤ a) (hm : a + (totSS R : Nat) < 4611686018427387904) (hl : R.length < 4611686018427387904) : ∀ (n i : Nat), i + n = R.length →
    Ev (fun k => laws_heldByteSS.l0 k (markSS a R) (a + (totSS (R.take i) : Nat)) (i : Int)) (a + (totSS R : Nat))
  | 0, i, hi => by
    have hb := markSS_length a R
    refine Ev.step (fun k => laws_heldByteSS.l0.eq_2 _ _ _ k) ?_
    refine ev_neg (by omega) (ev_now ?_)
    rw [List.take_of_length_le (by omega)]
  | n + 1, i, hi => by
    have hb := markSS_length a R
    have hlt : i < R.length := by omega
    have htake : totSS (R.take (i + 1)) = totSS (R.take i) + R[i].length := by
      rw [List.take_succ_eq_append_getElem hlt, totSS_append]; simp [totSS]
    have hle : totSS (R.take (i + 1)) ≤ totSS R := by
      have e := congrArg totSS (List.take_append_drop (i + 1) R)
      rw [totSS_append] at e
      omega
    have ih := laws_heldByteSS.ev_l0 R a ha hm hl n (i + 1) (by omega)
    rw [htake] at ih
    refine Ev.step (fun k => laws_heldByteSS.l0.eq_2 _ _ _ k) ?_
    refine ev_pos (by omega) (ev_pos (by omega) ?_)
    rw [rdSS _ i (by omega), markSS_get R a i hlt, inc (by omega)]
    refine ev_bind (laws_heldByteS.ev _ _ (by omega) (by omega)) (ev_neg (by omega) (ev_eq ?_ rfl))
    have e : a + ((totSS (R.take i) + R[i].length : Nat) : Int) = a + (totSS (R.take i) : Nat) + (R[i].length : Nat) := by omega
    rw [e] at ih
    exact ih
theorem laws_heldByteSS.ev (R : List (List Int)) (a : Int) (ha : 0 ≤ a) (hm : a + (totSS R : Nat) < 4611686018427387904) (hl : R.length < 4611686018427387904) : Ev (fun k => laws_heldByteSS.f k (markSS a R) a) (a + (totSS R : Nat)) := by
  unfold laws_heldByteSS.f
  have := laws_heldByteSS.ev_l0 R a ha hm hl R.length 0 (by omega)
  simpa [totSS] using this

theorem laws_heldMatrix.ev (R : List (List Int)) (a : Int) (ha : 0 ≤ a) (hm : a + (totSS R : Nat) < 4611686018427387904) (hl : R.length < 4611686018427387904) : Ev (fun k => laws_heldMatrix.f k (markSS a R) a) (a + (totSS R : Nat)) := by
  unfold laws_heldMatrix.f
  exact ev_bind (laws_heldByteSS.ev R a ha hm hl) (ev_neg (by omega) (ev_now rfl))

theorem localVal_rows (g e m : Int) : rowsLe 16 (localVal g e m).1 := by
  unfold localVal
  split
  · rename_i h
    obtain ⟨a, b, c, rfl, rfl, rfl, h1, h2, h3, h4, h5, h6, h7, _⟩ := GoodLocal_nat h
    refine ⟨by show (localM _ _ _).length ≤ 16; rw [localM_length]; simp only [Int.toNat_natCast]; omega, fun r hr => ?_⟩
    have := (localM_rows _ _ _ r hr).2
    simp only [Int.toNat_natCast] at this
    omega
  · exact nil_rows 16
theorem FnExactLocalMatrix : ∀ (g e m : Int), ((Lit.int .i64 g).wf = true ∧ (Lit.int .i64 e).wf = true ∧ (Lit.int .i64 m).wf = true) → laws_FnExactLocalMatrix.Facts g e m := by
  intro g e m _
  have hz := localVal_rows g e m
  refine ⟨(localVal g e m).1, (localVal g e m).2, ?_⟩
  have hr : rowsLe 1048576 (localVal g e m).1 := ⟨by have := hz.1; omega, fun r hr => by have := hz.2 r hr; omega⟩
  have ht := totSS_small (by decide) hz
  have hs := spec_LocalMatrix.ev g e m
  have hi := impl_LocalMatrix.ev g e m
  generalize localVal g e m = v at *
  obtain ⟨R, b⟩ := v
  dsimp only at *
  exact ⟨laws_toLocal.ev g e m, Ev.rounds hs, Ev.rounds hi, Ev.rounds (laws_eqMatrix.ev R hr), Ev.rounds (laws_heldMatrix.ev R 1 (by decide) (by omega) (by omega)),
    fun l a h1 h2 => Ev.rounds (laws_markByteS.ev l a h1 h2), ht⟩

end Go.Proofs.Ytlmcobjpmonkfaa.Pure
