/- The given program's CanDecode returns what the reference's CanDecode returns, for all codes and lists of numbers, and leaves the list as it was; there is no condition. -/
import Derived.Test.YtajikfnpcobnpaaPFnExactCanDecodex
import Derived.Test.YtajikfnpcobnpaaKit
import Derived.Test.YtajikfnpcobnpaaTxt
namespace Go.Proofs.Ytajikfnpcobnpaa.Pure
open Go.RowKit Go.Proofs.Ytajikfnpcobnpaa.PFnExactCanDecode Go.Proofs.YtajikfnpcobnpaaW.PrintWords Go.Proofs.YtajikfnpcobnpaaW.PrintLast Go.Proofs.Ytajikfnpcobnpaa.Gf Go.Proofs.Ytajikfnpcobnpaa.Kit Go.Proofs.Ytajikfnpcobnpaa.KitW
open Go.Proofs.Ytajikfnpcobnpaa.KitN hiding idM_length
set_option linter.unusedVariables false
set_option linter.unusedSimpArgs false

theorem rdSS (l : List (List Int)) (i : Nat) (h : i < l.length) : rd_L1 l (i : Int) = l[i] := by unfold rd_L1; simp [List.getD, h]
theorem rdSS0 (l : List (List Int)) (i : Int) : rd_L1 l i = l.getD i.toNat [] := rfl
theorem impl_Times.ev_l0 (b : Nat) (hb : b < 256) : ∀ (n i o x : Nat), i + n = 8 → o < 256 → x < 256 →
    Ev (fun k => impl_Times.l0 k (b : Int) (o : Int) (i : Int) (x : Int)) ((T n o x (b / 2 ^ i) : Nat) : Int)
  | 0, i, o, x, hi, ho, hx => by
    refine Ev.step (fun k => impl_Times.l0.eq_2 _ _ _ _ k) ?_
    refine ev_neg (by omega) (ev_now ?_)
    simp only [T]
    omega
  | n + 1, i, o, x, hi, ho, hx => by
    refine Ev.step (fun k => impl_Times.l0.eq_2 _ _ _ _ k) ?_
    refine ev_pos (by omega) (ev_pos (by omega) ?_)
    have e1 : shr .u8 (b : Int) (i : Int) = ((b / 2 ^ i : Nat) : Int) := by
      unfold shr
      rw [Nat.min_eq_left (by simp only [IntKind.bits]; omega)]
      simp
    have hd : b / 2 ^ i < 256 := Nat.lt_of_le_of_lt (Nat.div_le_self _ _) hb
    have e2 : wrap64 ((x : Int) * 2) = ((2 * x : Nat) : Int) := by rw [wrap_id (by omega) (by omega)]; omega
    have e3 : wrap64 ((i : Int) + 1) = ((i + 1 : Nat) : Int) := by rw [wrap_id (by omega) (by omega)]; omega
    rw [e1, and1_u8 hd, e2, e3]
    have e4 : Go.bits .xor .i64 (o : Int) (x : Int) = ((o ^^^ x : Nat) : Int) := xor_i64 (by omega) (by omega)
    have e5 : Go.bits .xor .i64 ((2 * x : Nat) : Int) 283 = ((2 * x ^^^ 283 : Nat) : Int) := xor_i64 (m := 2 * x) (n := 283) (by omega) (by omega)
    have e6 : b / 2 ^ i / 2 = b / 2 ^ (i + 1) := by rw [Nat.div_div_eq_div_mul, Nat.pow_succ]
    rw [e4, e5]
    have hT : T (n + 1) o x (b / 2 ^ i) = T n (if b / 2 ^ i % 2 = 1 then o ^^^ x else o) (xt x) (b / 2 ^ (i + 1)) := by rw [T, e6]
    rw [hT]
    have hxt := xt_lt hx
    have hox := xor_lt ho hx
    by_cases h1 : b / 2 ^ i % 2 = 1
    · rw [if_pos h1]
      refine ev_pos (by omega) ?_
      by_cases h2 : 2 * x > 255
      · refine ev_pos (by omega) ?_
        have : xt x = 2 * x ^^^ 283 := by unfold xt; rw [if_pos h2]
        rw [this] at hxt ⊢
        exact impl_Times.ev_l0 b hb n (i + 1) _ _ (by omega) hox hxt
      · refine ev_neg (by omega) ?_
        have : xt x = 2 * x := by unfold xt; rw [if_neg h2]
        rw [this] at hxt ⊢
        exact impl_Times.ev_l0 b hb n (i + 1) _ _ (by omega) hox hxt
    · rw [if_neg h1]
      refine ev_neg (by omega) ?_
      by_cases h2 : 2 * x > 255
      · refine ev_pos (by omega) ?_
        have : xt x = 2 * x ^^^ 283 := by unfold xt; rw [if_pos h2]
        rw [this] at hxt ⊢
        exact impl_Times.ev_l0 b hb n (i + 1) _ _ (by omega) ho hxt
      · refine ev_neg (by omega) ?_
        have : xt x = 2 * x := by unfold xt; rw [if_neg h2]
        rw [this] at hxt ⊢
        exact impl_Times.ev_l0 b hb n (i + 1) _ _ (by omega) ho hxt
theorem impl_Times.ev {a b : Int} (ha : Byte a) (hb : Byte b) : Ev (fun k => impl_Times.f k a b) (mul a b) := by
  obtain ⟨m, hm, rfl⟩ := ha.nat
  obtain ⟨n, hn, rfl⟩ := hb.nat
  unfold impl_Times.f
  rw [wrap_id (by omega) (by omega)]
  have h := impl_Times.ev_l0 n hn 8 0 0 m rfl (by decide) hm
  exact ev_eq h (by unfold Gf.mul gm; simp)

theorem impl_power.ev_l0 : ∀ (N n : Nat) (a o : Int), n ≤ N → n < 4294967296 → Byte a → Byte o → Ev (fun k => impl_power.l0 k a (n : Int) o) (mul o (pow a n)) := by
  intro N
  induction N with
  | zero =>
    intro n a o hN hn ha ho
    obtain rfl : n = 0 := by omega
    refine Ev.step (fun k => impl_power.l0.eq_2 _ _ _ k) ?_
    exact ev_neg (by omega) (ev_now (by rw [pow_zero, mul_one ho]))
  | succ N ih =>
    intro n a o hN hn ha ho
    refine Ev.step (fun k => impl_power.l0.eq_2 _ _ _ k) ?_
    by_cases h0 : n = 0
    · subst h0
      exact ev_neg (by omega) (ev_now (by rw [pow_zero, mul_one ho]))
    refine ev_pos (by omega) ?_
    have e : ((n : Int) / 2) = ((n / 2 : Nat) : Int) := by omega
    have haa := Byte.mul ha a
    have hsq : pow (mul a a) (n / 2) = pow a (2 * (n / 2)) := by rw [pow_mul ha, pow_two ha]
    rw [and1_i64 hn, e]
    by_cases h1 : n % 2 = 1
    · refine ev_pos (by omega) ?_
      refine ev_bind (impl_Times.ev ho ha) (ev_bind (impl_Times.ev ha ha) ?_)
      refine ev_eq (ih (n / 2) _ _ (by omega) (by omega) haa (Byte.mul ho a)) ?_
      have hn2 : n = 1 + 2 * (n / 2) := by omega
      rw [hsq, mul_assoc ho ha (Byte.pow ha _)]
      conv => rhs; rw [hn2, pow_add ha, pow_one ha]
    · refine ev_neg (by omega) ?_
      refine ev_bind (impl_Times.ev ha ha) ?_
      refine ev_eq (ih (n / 2) _ _ (by omega) (by omega) haa ho) ?_
      have hn2 : n = 2 * (n / 2) := by omega
      rw [hsq, ← hn2]
theorem impl_power.ev {a : Int} (ha : Byte a) (n : Nat) (hn : n < 4294967296) : Ev (fun k => impl_power.f k a (n : Int)) (pow a n) := by
  unfold impl_power.f
  refine ev_eq (impl_power.ev_l0 n n a 1 (Nat.le_refl _) hn ha .one) ?_
  exact one_mul (Byte.pow ha n)

theorem impl_identity.ev_l0 (n : Nat) (hn : n ≤ 1048576) : ∀ (d i : Nat) (o : List (List Int)), i + d = n → o = (idM n).take i → Ev (fun k => impl_identity.l0 k (n : Int) o (n : Int) (i : Int)) (idM n)
  | 0, i, o, hi, ho => by
    refine Ev.step (fun k => impl_identity.l0.eq_2 _ _ _ _ k) ?_
    refine ev_neg (by omega) (ev_now ?_)
    rw [ho, List.take_of_length_le (by simp [idM]; omega)]
  | d + 1, i, o, hi, ho => by
    have hl : o.length = i := by rw [ho, List.length_take]; simp [idM]; omega
    refine Ev.step (fun k => impl_identity.l0.eq_2 _ _ _ _ k) ?_
    simp only [Option.bind_some, Int.toNat_natCast, List.length_replicate]
    refine ev_pos (by omega) (ev_pos (by omega) (ev_pos (by omega) (ev_pos (by omega) (ev_pos (by omega) (ev_pos (by omega) ?_)))))
    rw [inc (by omega)]
    refine impl_identity.ev_l0 n hn d (i + 1) _ (by omega) ?_
    rw [List.take_succ_eq_append_getElem (by simp [idM]; omega), ← ho]
    simp [idM]
theorem impl_identity.ev (n : Nat) (hn : n ≤ 1048576) : Ev (fun k => impl_identity.f k (n : Int)) (idM n) := by
  unfold impl_identity.f
  exact impl_identity.ev_l0 n hn n 0 [] (by omega) rfl

theorem impl_filled.ev_l1 {E : Nat → Int → Int → Option Int} (n m : Nat) (f : Nat → Nat → Int) (hm : m ≤ 1048576) (i : Nat) (hE : ∀ j, j < m → Ev (fun k => E k (i : Int) (j : Int)) (f i j)) (out : List (List Int)) (ho : out.length < 5864062014805) {R : List (List Int)}
    (K : Ev (fun k => impl_filled.l0 E k (m : Int) (out ++ [(List.range m).map (f i)]) (n : Int) (wrap64 ((i : Int) + 1))) R) : ∀ (d j : Nat) (o : List Int), j + d = m → o = (List.range j).map (f i) →
    Ev (fun k => impl_filled.l1 E k (m : Int) out (i : Int) o (n : Int) (i : Int) (m : Int) (j : Int)) R
  | 0, j, o, hj, hoj => by
    refine Ev.step (fun k => impl_filled.l1.eq_2 _ _ _ _ _ _ _ _ _ k) ?_
    refine ev_neg (by omega) (ev_pos ho ?_)
    rw [hoj, show j = m by omega]
    exact K
  | d + 1, j, o, hj, hoj => by
    have hol : o.length = j := by rw [hoj]; simp
    refine Ev.step (fun k => impl_filled.l1.eq_2 _ _ _ _ _ _ _ _ _ k) ?_
    refine ev_pos (by omega) (ev_bind (hE j (by omega)) (ev_pos (by omega) ?_))
    rw [inc (by omega)]
    refine impl_filled.ev_l1 n m f hm i hE out ho K d (j + 1) _ (by omega) ?_
    rw [hoj, List.range_succ, List.map_append]
    rfl
theorem impl_filled.ev_l0 {E : Nat → Int → Int → Option Int} (n m : Nat) (f : Nat → Nat → Int) (hn : n ≤ 1048576) (hm : m ≤ 1048576) (hE : ∀ i, i < n → ∀ j, j < m → Ev (fun k => E k (i : Int) (j : Int)) (f i j)) : ∀ (d i : Nat) (o : List (List Int)), i + d = n → o = tab i m f →
    Ev (fun k => impl_filled.l0 E k (m : Int) o (n : Int) (i : Int)) (tab n m f)
  | 0, i, o, hi, ho => by
    refine Ev.step (fun k => impl_filled.l0.eq_2 _ _ _ _ _ k) ?_
    refine ev_neg (by omega) (ev_now ?_)
    rw [ho, show i = n by omega]
  | d + 1, i, o, hi, ho => by
    have hol : o.length = i := by rw [ho, tab_length]
    have ih := impl_filled.ev_l0 n m f hn hm hE d (i + 1) (o ++ [(List.range m).map (f i)]) (by omega) (by
      rw [ho]
      unfold tab
      rw [List.range_succ, List.map_append]
      rfl)
    refine Ev.step (fun k => impl_filled.l0.eq_2 _ _ _ _ _ k) ?_
    refine ev_pos (by omega) ?_
    exact impl_filled.ev_l1 n m f hm i (hE i (by omega)) o (by omega) (by rw [inc (by omega)]; exact ih) m 0 [] (by omega) rfl
theorem impl_filled.ev {E : Nat → Int → Int → Option Int} (n m : Nat) (f : Nat → Nat → Int) (hn : n ≤ 1048576) (hm : m ≤ 1048576) (hE : ∀ i, i < n → ∀ j, j < m → Ev (fun k => E k (i : Int) (j : Int)) (f i j)) : Ev (fun k => impl_filled.f E k (n : Int) (m : Int)) (tab n m f) := by
  unfold impl_filled.f
  exact impl_filled.ev_l0 n m f hn hm hE n 0 [] (by omega) rfl

theorem impl_cauchy.ev (n m : Nat) (hn : n ≤ 1048576) (hm : m ≤ 1048576) : Ev (fun k => impl_cauchy.f k (n : Int) (m : Int)) (tab n m (cauAt m)) := by
  unfold impl_cauchy.f
  refine impl_filled.ev n m (cauAt m) hn hm (fun i hi j hj => ?_)
  unfold impl_cauchy.E
  exact ev_eq (impl_power.ev (mod_byte _) 254 (by decide)) (inv_pow _).symm

theorem impl_Local_data.ev {g e m : Int} (h : GoodLocal g e m) : impl_Local_data.f g e m = some (g * e) := by
  unfold impl_Local_data.f
  rw [(small_mul h.1).1]

theorem laws_toIntS.ev_l0 (l : List Int) (hl : l.length < 4611686018427387904) : ∀ (n i : Nat) (o : List Int), i + n = l.length → o.length = l.length → o.take i = l.take i →
    Ev (fun k => laws_toIntS.l0 k l o (i : Int)) l
  | 0, i, o, hi, ho, ht => by
    refine Ev.step (fun k => laws_toIntS.l0.eq_2 _ _ _ k) ?_
    refine ev_neg (by omega) (ev_now ?_)
    rw [List.take_of_length_le (by omega), List.take_of_length_le (by omega)] at ht
    exact ht
  | n + 1, i, o, hi, ho, ht => by
    refine Ev.step (fun k => laws_toIntS.l0.eq_2 _ _ _ k) ?_
    refine ev_pos (by omega) (ev_pos (by omega) (ev_pos (by omega) ?_))
    rw [inc (by omega), Int.toNat_natCast]
    refine laws_toIntS.ev_l0 l hl n (i + 1) _ (by omega) (by simpa using ho) ?_
    rw [take_set_succ _ _ _ (by omega), ht, List.take_succ_eq_append_getElem (by omega), rd_get (by omega)]
theorem laws_toIntS.ev (l : List Int) (hl : l.length ≤ 35184372088832) : Ev (fun k => laws_toIntS.f k l) l := by
  unfold laws_toIntS.f
  refine ev_pos (by omega) (ev_pos (by omega) ?_)
  exact laws_toIntS.ev_l0 l (by omega) l.length 0 _ (by omega) (by simp) rfl

theorem laws_eqIntS.ev_l0 (l : List Int) (hl : l.length < 4611686018427387904) : ∀ (n i : Nat), i + n = l.length → Ev (fun k => laws_eqIntS.l0 k l l (i : Int)) true
  | 0, i, hi => by
    refine Ev.step (fun k => laws_eqIntS.l0.eq_2 _ _ _ k) ?_
    exact ev_neg (by omega) (ev_now rfl)
  | n + 1, i, hi => by
    refine Ev.step (fun k => laws_eqIntS.l0.eq_2 _ _ _ k) ?_
    refine ev_pos (by omega) (ev_pos (by omega) (ev_pos (by omega) (ev_pos rfl ?_)))
    rw [inc (by omega)]
    exact laws_eqIntS.ev_l0 l hl n (i + 1) (by omega)
theorem laws_eqIntS.ev (l : List Int) (hl : l.length ≤ 281474976710656) : Ev (fun k => laws_eqIntS.f k l l) true := by
  unfold laws_eqIntS.f
  exact ev_pos rfl (laws_eqIntS.ev_l0 l (by omega) l.length 0 (by omega))

theorem spec_l1In.ev (a b c : Int) : spec_l1In.f a b c = some (decide (b ≤ a ∧ a ≤ c)) := by
  unfold spec_l1In.f
  by_cases h : a ≥ b
  · rw [if_pos h]; simp [h]
  · rw [if_neg h]; simp; omega

theorem spec_l1Some.ev_l0 (l : List Int) (n : Nat) (hn : n ≤ 16) (hl : l.length ≤ 1048576) (hw : ∀ x ∈ l, (Lit.int .i64 x).wf = true) : ∀ (d i : Nat), i + d = l.length → (∀ j, j < i → riseAt l n j = true) → Ev (fun k => spec_l1Some.l0 k l (n : Int) l (l.length : Int) (i : Int)) (rising l n)
  | 0, i, hi, ha => by
    refine Ev.step (fun k => spec_l1Some.l0.eq_2 _ _ _ _ _ k) ?_
    exact ev_neg (by omega) (ev_now (rising_yes (fun j hj => ha j (by omega))).symm)
  | d + 1, i, hi, ha => by
    have e : wrap64 ((n : Int) - 1) = (n : Int) - 1 := by unfold wrap64; omega
    refine Ev.step (fun k => spec_l1Some.l0.eq_2 _ _ _ _ _ k) ?_
    refine ev_pos (by omega) (ev_pos (by omega) (ev_pos (by omega) ?_))
    simp only [spec_l1In.ev, Option.bind_some, decide_eq_true_eq, e]
    by_cases h : 0 ≤ rd l (i : Int) ∧ rd l (i : Int) ≤ (n : Int) - 1
    · refine ev_pos h ?_
      by_cases h0 : i = 0
      · subst h0
        refine ev_neg (by omega) ?_
        rw [inc (by omega)]
        refine spec_l1Some.ev_l0 l n hn hl hw d 1 (by omega) (fun j hj => ?_)
        have : j = 0 := by omega
        subst this
        exact riseAt_yes h (.inl rfl)
      · have e2 : wrap64 ((i : Int) - 1) = ((i - 1 : Nat) : Int) := by unfold wrap64; omega
        refine ev_pos (by omega) ?_
        rw [e2]
        refine ev_pos (by omega) (ev_pos (by omega) ?_)
        by_cases h2 : rd l ((i - 1 : Nat) : Int) ≥ rd l (i : Int)
        · exact ev_pos h2 (ev_now (rising_no (i := i) (by omega) (riseAt_no (fun z => by rcases z.2 with z | z <;> omega))).symm)
        · refine ev_neg h2 ?_
          rw [inc (by omega)]
          refine spec_l1Some.ev_l0 l n hn hl hw d (i + 1) (by omega) (fun j hj => ?_)
          by_cases ej : j = i
          · subst ej; exact riseAt_yes h (.inr (by omega))
          · exact ha j (by omega)
    · exact ev_neg h (ev_now (rising_no (i := i) (by omega) (riseAt_no (fun z => h z.1))).symm)
theorem spec_l1Some.ev (l : List Int) (n : Nat) (hn : n ≤ 16) (hl : l.length ≤ 1048576) (hw : ∀ x ∈ l, (Lit.int .i64 x).wf = true) : Ev (fun k => spec_l1Some.f k l (n : Int)) (rising l n) := by
  unfold spec_l1Some.f
  exact spec_l1Some.ev_l0 l n hn hl hw l.length 0 (by omega) (fun j hj => absurd hj (by omega))

theorem spec_l2Part.ev_l1 (m : List (List Int)) (c : List Int) (hg : goodM m = true) (hc : c.length ≤ 1048576) (hcn : ∀ j, j < c.length → 0 ≤ rd c (j : Int) ∧ rd c (j : Int) < ((m.getD 0 []).length : Int)) (r : List Int) (i a : Nat) (ha : a < m.length) (out : List (List Int)) (ho : out.length < 5864062014805) {R : List (List Int)}
    (K : Ev (fun k => spec_l2Part.l0 k c r (r.length : Int) (wrap64 ((i : Int) + 1)) m (out ++ [partRow m c a])) R) : ∀ (d j : Nat) (o : List Int), j + d = c.length → o = (partRow m c a).take j →
    Ev (fun k => spec_l2Part.l1 k c (a : Int) o r (r.length : Int) (i : Int) c (c.length : Int) (j : Int) m out) R
  | 0, j, o, hj, hoj => by
    refine Ev.step (fun k => spec_l2Part.l1.eq_2 _ _ _ _ _ _ _ _ _ _ _ k) ?_
    refine ev_neg (by omega) (ev_pos ho ?_)
    rw [hoj, List.take_of_length_le (by rw [partRow_length]; omega)]
    exact K
  | d + 1, j, o, hj, hoj => by
    have hf := goodM_iff hg
    have e := hf.2.2 a ha
    have h2 := hcn j (by omega)
    have hol : o.length = j := by rw [hoj, List.length_take, partRow_length]; omega
    refine Ev.step (fun k => spec_l2Part.l1.eq_2 _ _ _ _ _ _ _ _ _ _ _ k) ?_
    simp only [rdSS0, Int.toNat_natCast]
    refine ev_pos (by omega) (ev_pos (by omega) (ev_pos (by omega) (ev_pos (by omega) (ev_pos (by omega) (ev_pos h2.1 (ev_pos (by omega) (ev_pos (by omega) ?_)))))))
    rw [inc (by omega)]
    exact spec_l2Part.ev_l1 m c hg hc hcn r i a ha out ho K d (j + 1) _ (by omega) (by rw [partRow_succ m c a j (by omega), ← hoj])
theorem spec_l2Part.ev_l0 (m : List (List Int)) (c r : List Int) (hg : goodM m = true) (hc : c.length ≤ 1048576) (hr : r.length ≤ 1048576) (hcn : ∀ j, j < c.length → 0 ≤ rd c (j : Int) ∧ rd c (j : Int) < ((m.getD 0 []).length : Int)) (hrn : ∀ j, j < r.length → 0 ≤ rd r (j : Int) ∧ rd r (j : Int) < (m.length : Int)) : ∀ (d i : Nat) (out : List (List Int)), i + d = r.length → out = (partM m r c).take i →
    Ev (fun k => spec_l2Part.l0 k c r (r.length : Int) (i : Int) m out) (partM m r c)
  | 0, i, out, hi, ho => by
    refine Ev.step (fun k => spec_l2Part.l0.eq_2 _ _ _ _ _ _ k) ?_
    refine ev_neg (by omega) (ev_now ?_)
    rw [ho, List.take_of_length_le (by rw [partM_length]; omega)]
  | d + 1, i, out, hi, ho => by
    have h2 := hrn i (by omega)
    have hol : out.length = i := by rw [ho, List.length_take, partM_length]; omega
    obtain ⟨a, ha⟩ := Int.eq_ofNat_of_zero_le h2.1
    refine Ev.step (fun k => spec_l2Part.l0.eq_2 _ _ _ _ _ _ k) ?_
    refine ev_pos (by omega) (ev_pos (by omega) (ev_pos (by omega) ?_))
    have ih := spec_l2Part.ev_l0 m c r hg hc hr hcn hrn d (i + 1) (out ++ [partRow m c a]) (by omega) (by rw [partM_succ m r c i (by omega), ← ho, ha, Int.toNat_natCast])
    rw [ha]
    exact spec_l2Part.ev_l1 m c hg hc hcn r i a (by omega) out (by omega) (by rw [inc (by omega)]; exact ih) c.length 0 [] (by omega) rfl
theorem spec_l2Part.ev (m : List (List Int)) (r c : List Int) (hg : goodM m = true) (hc : c.length ≤ 1048576) (hr : r.length ≤ 1048576) (hcn : ∀ j, j < c.length → 0 ≤ rd c (j : Int) ∧ rd c (j : Int) < ((m.getD 0 []).length : Int)) (hrn : ∀ j, j < r.length → 0 ≤ rd r (j : Int) ∧ rd r (j : Int) < (m.length : Int)) : Ev (fun k => spec_l2Part.f k m r c) (partM m r c) := by
  unfold spec_l2Part.f
  exact spec_l2Part.ev_l0 m c r hg hc hr hcn hrn r.length 0 [] (by omega) rfl

def allI (n : Nat) : List Int := (List.range n).map fun i => ((i : Nat) : Int)
theorem allI_length (n : Nat) : (allI n).length = n := by simp [allI]
theorem allI_rd {n i : Nat} (h : i < n) : rd (allI n) (i : Int) = (i : Int) := by rw [rd_nat]; simp [allI, List.getD, h]
theorem spec_l3All.ev_l0 (n : Nat) (hn : n ≤ 1048576) : ∀ (d i : Nat) (o : List Int), i + d = n → o = allI i → Ev (fun k => spec_l3All.l0 k (n : Int) o (i : Int)) (allI n)
  | 0, i, o, hi, ho => by
    refine Ev.step (fun k => spec_l3All.l0.eq_2 _ _ _ k) ?_
    obtain rfl : i = n := by omega
    exact ev_neg (by omega) (ev_now ho)
  | d + 1, i, o, hi, ho => by
    have hl : o.length = i := by rw [ho, allI_length]
    refine Ev.step (fun k => spec_l3All.l0.eq_2 _ _ _ k) ?_
    refine ev_pos (by omega) (ev_pos (by omega) ?_)
    rw [inc (by omega)]
    refine spec_l3All.ev_l0 n hn d (i + 1) _ (by omega) ?_
    rw [ho]; simp [allI, List.range_succ]
theorem spec_l3All.ev (n : Nat) (hn : n ≤ 1048576) : Ev (fun k => spec_l3All.f k (n : Int)) (allI n) := by
  unfold spec_l3All.f
  exact spec_l3All.ev_l0 n hn n 0 [] (by omega) rfl
/-- Some rows. -/
def someM (M : List (List Int)) (l : List Int) : List (List Int) := l.map fun x => M.getD x.toNat []
theorem someM_length (M : List (List Int)) (l : List Int) : (someM M l).length = l.length := by simp [someM]
theorem someM_ok {M : List (List Int)} {n : Nat} {l : List Int} (hM : ∀ r ∈ M, Bytes r ∧ r.length = n) (hl : ∀ j, j < l.length → 0 ≤ rd l (j : Int) ∧ rd l (j : Int) < (M.length : Int)) : ∀ r ∈ someM M l, okI n r := by
  intro r hr
  obtain ⟨x, hx, rfl⟩ := List.mem_map.1 hr
  obtain ⟨j, hj, rfl⟩ := List.getElem_of_mem hx
  have h1 := hl j hj
  rw [rd_get hj] at h1
  have h2 : (l[j]).toNat < M.length := by omega
  rw [List.getD_eq_getElem?_getD, List.getElem?_eq_getElem h2]
  exact hM _ (List.getElem_mem h2)
theorem someM_succ (M : List (List Int)) {l : List Int} {i : Nat} (h : i < l.length) : (someM M l).take (i + 1) = (someM M l).take i ++ [M.getD (rd l (i : Int)).toNat []] := by
  rw [List.take_succ_eq_append_getElem (by rw [someM_length]; exact h)]
  simp [someM, rd_get h]
theorem partM_some {M : List (List Int)} {n : Nat} {l : List Int} (hM : ∀ r ∈ M, Bytes r ∧ r.length = n) (hl : ∀ j, j < l.length → 0 ≤ rd l (j : Int) ∧ rd l (j : Int) < (M.length : Int)) : partM M l (allI n) = someM M l := by
  apply List.ext_getElem
  · rw [partM_length, someM_length]
  · intro i h1 h2
    have hi : i < l.length := by rw [partM_length] at h1; exact h1
    have h3 := hl i hi
    have h4 : (rd l (i : Int)).toNat < M.length := by omega
    simp only [partM, someM, List.getElem_map, List.getElem_range]
    rw [← rd_get hi]
    unfold partRow
    rw [allI_length]
    have hr : M.getD (rd l (i : Int)).toNat [] ∈ M := by
      rw [List.getD_eq_getElem?_getD, List.getElem?_eq_getElem h4]
      exact List.getElem_mem h4
    have hlen := (hM _ hr).2
    conv => rhs; rw [row_self hlen]
    apply List.map_congr_left
    intro j hj
    rw [allI_rd (by simpa using hj), rd_nat]
theorem goodM_of {M : List (List Int)} {n : Nat} (hM : ∀ r ∈ M, Bytes r ∧ r.length = n) (h1 : 1 ≤ M.length) (h2 : M.length ≤ 16) (h3 : 1 ≤ n) (h4 : n ≤ 16) : goodM M = true := by
  have hat : ∀ i, i < M.length → (M.getD i []).length = n := fun i hi => by
    rw [List.getD_eq_getElem?_getD, List.getElem?_eq_getElem hi]
    exact (hM _ (List.getElem_mem hi)).2
  unfold goodM
  have h0 := hat 0 (by omega)
  rw [Bool.and_eq_true, decide_eq_true_eq]
  refine ⟨by omega, ?_⟩
  have : ((List.range M.length).any fun i => (M.getD i []).length != (M.getD 0 []).length) = false := by
    rw [List.any_eq_false]
    intro x hx
    rw [hat x (by simpa using hx), h0]
    simp
  rw [this]; rfl

theorem spec_l1Add.ev_l0 (v w : List Int) (hv : Bytes v) (hw : Bytes w) (hl : v.length = w.length) (hs : v.length < 140737488355328) : ∀ (n i : Nat) (o : List Int), i + n = v.length → o = (addV v w).take i →
    Ev (fun k => spec_l1Add.l0 k v w o (v.length : Int) (i : Int)) (addV v w)
  | 0, i, o, hi, ho => by
    refine Ev.step (fun k => spec_l1Add.l0.eq_2 _ _ _ _ _ k) ?_
    refine ev_neg (by omega) (ev_now ?_)
    subst ho
    rw [List.take_of_length_le (by rw [addV_length]; omega)]
  | n + 1, i, o, hi, ho => by
    have hz := addV_length v w
    have hlen : o.length = i := by rw [ho, List.length_take, hz]; omega
    refine Ev.step (fun k => spec_l1Add.l0.eq_2 _ _ _ _ _ k) ?_
    refine ev_pos (by omega) (ev_pos (by omega) (ev_pos (by omega) (ev_pos (by omega) (ev_pos (by omega) ?_))))
    rw [inc (by omega), xor_u8 (bytes_rd hv (by omega)) (bytes_rd hw (by omega)), rd_get (by omega), rd_get (by omega)]
    refine spec_l1Add.ev_l0 v w hv hw hl hs n (i + 1) _ (by omega) ?_
    rw [List.take_succ_eq_append_getElem (by omega), ← ho]
    simp [addV]
theorem spec_l1Add.ev {v w : List Int} (hv : Bytes v) (hw : Bytes w) (hl : v.length = w.length) (hs : v.length < 140737488355328) : Ev (fun k => spec_l1Add.f k v w) (addV v w) := by
  unfold spec_l1Add.f
  exact spec_l1Add.ev_l0 v w hv hw hl hs v.length 0 [] (by omega) rfl

theorem spec_l1Times.ev_l0 : ∀ (n o x y : Nat), y < 2 ^ n → n ≤ 8 → o < 256 → x < 256 →
    Ev (fun k => spec_l1Times.l0 k (o : Int) (x : Int) (y : Int)) ((T n o x y : Nat) : Int)
  | 0, o, x, y, hy, _, ho, hx => by
    refine Ev.step (fun k => spec_l1Times.l0.eq_2 _ _ _ k) ?_
    have : y = 0 := by simpa using hy
    subst this
    refine ev_neg (by decide) (ev_now ?_)
    simp only [T]
    omega
  | n + 1, o, x, y, hy, hn, ho, hx => by
    have hy8 : y < 256 := Nat.lt_of_lt_of_le hy (Nat.pow_le_pow_right (n := 2) (by decide) hn)
    by_cases h0 : y = 0
    · subst h0
      refine Ev.step (fun k => spec_l1Times.l0.eq_2 _ _ _ k) ?_
      refine ev_neg (by decide) (ev_now ?_)
      rw [T_zero]
      omega
    refine Ev.step (fun k => spec_l1Times.l0.eq_2 _ _ _ k) ?_
    refine ev_pos (by omega) ?_
    have e2 : wrap64 ((x : Int) * 2) = ((2 * x : Nat) : Int) := by rw [wrap_id (by omega) (by omega)]; omega
    have e3 : ((y : Int) / 2) = ((y / 2 : Nat) : Int) := by omega
    have e4 : Go.bits .xor .i64 (o : Int) (x : Int) = ((o ^^^ x : Nat) : Int) := xor_i64 (by omega) (by omega)
    have e5 : Go.bits .xor .i64 ((2 * x : Nat) : Int) 283 = ((2 * x ^^^ 283 : Nat) : Int) := xor_i64 (m := 2 * x) (n := 283) (by omega) (by omega)
    rw [and1_i64 (by omega), e2, e3, e4, e5]
    have hT : T (n + 1) o x y = T n (if y % 2 = 1 then o ^^^ x else o) (xt x) (y / 2) := by rw [T]
    rw [hT]
    have hxt := xt_lt hx
    have hox := xor_lt ho hx
    have hh : y / 2 < 2 ^ n := by rw [Nat.pow_succ] at hy; omega
    by_cases h1 : y % 2 = 1
    · rw [if_pos h1]
      refine ev_pos (by omega) ?_
      by_cases h2 : 2 * x > 255
      · refine ev_pos (by omega) ?_
        have : xt x = 2 * x ^^^ 283 := by unfold xt; rw [if_pos h2]
        rw [this] at hxt ⊢
        exact spec_l1Times.ev_l0 n _ _ _ hh (by omega) hox hxt
      · refine ev_neg (by omega) ?_
        have : xt x = 2 * x := by unfold xt; rw [if_neg h2]
        rw [this] at hxt ⊢
        exact spec_l1Times.ev_l0 n _ _ _ hh (by omega) hox hxt
    · rw [if_neg h1]
      refine ev_neg (by omega) ?_
      by_cases h2 : 2 * x > 255
      · refine ev_pos (by omega) ?_
        have : xt x = 2 * x ^^^ 283 := by unfold xt; rw [if_pos h2]
        rw [this] at hxt ⊢
        exact spec_l1Times.ev_l0 n _ _ _ hh (by omega) ho hxt
      · refine ev_neg (by omega) ?_
        have : xt x = 2 * x := by unfold xt; rw [if_neg h2]
        rw [this] at hxt ⊢
        exact spec_l1Times.ev_l0 n _ _ _ hh (by omega) ho hxt
theorem spec_l1Times.ev {a b : Int} (ha : Byte a) (hb : Byte b) : Ev (fun k => spec_l1Times.f k a b) (mul a b) := by
  obtain ⟨m, hm, rfl⟩ := ha.nat
  obtain ⟨n, hn, rfl⟩ := hb.nat
  unfold spec_l1Times.f
  rw [wrap_id (i := (m : Int)) (by omega) (by omega), wrap_id (i := (n : Int)) (by omega) (by omega)]
  have h := spec_l1Times.ev_l0 8 0 m n hn (Nat.le_refl _) (by decide) hm
  exact ev_eq h (by unfold Gf.mul gm; simp)

theorem spec_l1Scale.ev_l0 (a : Int) (ha : Byte a) (v : List Int) (hv : Bytes v) (hs : v.length < 140737488355328) : ∀ (n i : Nat) (o : List Int), i + n = v.length → o = (scale a v).take i →
    Ev (fun k => spec_l1Scale.l0 k a o v (v.length : Int) (i : Int)) (scale a v)
  | 0, i, o, hi, ho => by
    refine Ev.step (fun k => spec_l1Scale.l0.eq_2 _ _ _ _ _ k) ?_
    refine ev_neg (by omega) (ev_now ?_)
    subst ho
    rw [List.take_of_length_le (by rw [scale_length]; omega)]
  | n + 1, i, o, hi, ho => by
    have hz := scale_length a v
    have hlen : o.length = i := by rw [ho, List.length_take, hz]; omega
    refine Ev.step (fun k => spec_l1Scale.l0.eq_2 _ _ _ _ _ k) ?_
    refine ev_pos (by omega) (ev_pos (by omega) (ev_pos (by omega) ?_))
    refine ev_bind (spec_l1Times.ev ha (bytes_rd hv (by omega))) ?_
    refine ev_pos (by omega) ?_
    rw [inc (by omega), rd_get (by omega)]
    refine spec_l1Scale.ev_l0 a ha v hv hs n (i + 1) _ (by omega) ?_
    rw [List.take_succ_eq_append_getElem (by omega), ← ho]
    simp [scale]
theorem spec_l1Scale.ev {a : Int} (ha : Byte a) {v : List Int} (hv : Bytes v) (hs : v.length < 140737488355328) : Ev (fun k => spec_l1Scale.f k a v) (scale a v) := by
  unfold spec_l1Scale.f
  exact spec_l1Scale.ev_l0 a ha v hv hs v.length 0 [] (by omega) rfl

theorem spec_l2Own.ev_l0 (l : List (List Int)) (hl : l.length ≤ 1048576) (hr : ∀ r ∈ l, r.length ≤ 1048576) : ∀ (d i : Nat) (o : List (List Int)), i + d = l.length → o = l.take i → Ev (fun k => spec_l2Own.l0 k l (l.length : Int) (i : Int) o) l
  | 0, i, o, hi, ho => by
    refine Ev.step (fun k => spec_l2Own.l0.eq_2 _ _ _ _ k) ?_
    refine ev_neg (by omega) (ev_now ?_)
    rw [ho, List.take_of_length_le (by omega)]
  | d + 1, i, o, hi, ho => by
    have hol : o.length = i := by rw [ho, List.length_take]; omega
    have hrl : (l.getD i []).length ≤ 1048576 := by
      rw [List.getD_eq_getElem?_getD, List.getElem?_eq_getElem (show i < l.length by omega)]
      exact hr _ (List.getElem_mem _)
    refine Ev.step (fun k => spec_l2Own.l0.eq_2 _ _ _ _ k) ?_
    simp only [Option.bind_some]
    refine ev_pos (by omega) (ev_pos (by omega) (ev_pos (by omega) (ev_pos (show ([] : List Int).length + (l.getD i []).length < 140737488355328 by simp only [List.length_nil]; omega) (ev_pos (by omega) ?_))))
    rw [inc (by omega)]
    refine spec_l2Own.ev_l0 l hl hr d (i + 1) _ (by omega) ?_
    rw [List.take_succ_eq_append_getElem (show i < l.length by omega), ← ho, show l[i]'(by omega) = l.getD i [] by rw [List.getD_eq_getElem?_getD, List.getElem?_eq_getElem (show i < l.length by omega)]; rfl]
    rfl
theorem spec_l2Own.ev (l : List (List Int)) (hl : l.length ≤ 1048576) (hr : ∀ r ∈ l, r.length ≤ 1048576) : Ev (fun k => spec_l2Own.f k l) l := by
  unfold spec_l2Own.f
  exact spec_l2Own.ev_l0 l hl hr l.length 0 [] (by omega) rfl

theorem spec_l1Power.ev_l0 (a : Int) (ha : Byte a) : ∀ (n m : Nat), n < 4611686018427387904 → Ev (fun k => spec_l1Power.l0 k a (n : Int) (pow a m)) (pow a (m + n))
  | 0, m, _ => by
    refine Ev.step (fun k => spec_l1Power.l0.eq_2 _ _ _ k) ?_
    exact ev_neg (by omega) (ev_now rfl)
  | n + 1, m, hn => by
    refine Ev.step (fun k => spec_l1Power.l0.eq_2 _ _ _ k) ?_
    refine ev_pos (by omega) ?_
    refine ev_bind (spec_l1Times.ev (Byte.pow ha m) ha) ?_
    have e : wrap64 (((n + 1 : Nat) : Int) - 1) = (n : Int) := by unfold wrap64; omega
    rw [e, ← pow_succ]
    refine ev_eq (spec_l1Power.ev_l0 a ha n (m + 1) (by omega)) ?_
    rw [Nat.add_right_comm, Nat.add_assoc]
theorem spec_l1Power.ev {a : Int} (ha : Byte a) (n : Nat) (hn : n < 4611686018427387904) : Ev (fun k => spec_l1Power.f k a (n : Int)) (pow a n) := by
  unfold spec_l1Power.f
  have := spec_l1Power.ev_l0 a ha n 0 hn
  rw [pow_zero, Nat.zero_add] at this
  exact this

theorem spec_l1Inverse.ev {a : Int} (ha : Byte a) : Ev (fun k => spec_l1Inverse.f k a) (inv a) := by
  unfold spec_l1Inverse.f
  by_cases h : a = 0
  · subst h
    exact ev_pos rfl (ev_now inv_zero.symm)
  · exact ev_neg h (ev_bind (spec_l1Power.ev ha 254 (by decide)) (ev_now (inv_pow a).symm))

theorem sqM_good {l : List (List Int)} (h : goodM l = true) (hb : matBytes l) : sqM l = true := by
  obtain ⟨h1, h2, h3⟩ := goodM_iff h
  refine sqM_iff.2 ⟨by omega, by omega, fun r hr => ⟨hb r hr, ?_⟩⟩
  obtain ⟨i, hi, rfl⟩ := List.getElem_of_mem hr
  have := h3 i hi
  rw [List.getD_eq_getElem?_getD, List.getElem?_eq_getElem hi] at this
  exact this
theorem matBytes_of {l : List (List Int)} (h : ∀ r ∈ l, (r.length ≤ maxLen ∧ ∀ x ∈ r, (Lit.int .u8 x).wf = true)) : matBytes l := fun r hr => Bytes.of_wf (h r hr).2
theorem spec_l2Rank.ev {l : List (List Int)} (h : 1 ≤ l.length) (hs : sqM l = true) : spec_l2Rank.f l = some (((rowI.red l (l.getD 0 []).length).2 : Nat) : Int) := by
  unfold spec_l2Rank.f
  rw [if_pos (by rw [hs, decide_eq_true h]; rfl)]

theorem spec_GoodLocal.ev (g e m : Int) : spec_GoodLocal.f g e m = some (decide (GoodLocal g e m)) := by
  unfold spec_GoodLocal.f
  simp only [spec_l1In.ev, Option.bind_some, decide_eq_true_eq]
  by_cases h1 : 1 ≤ g ∧ g ≤ 4
  · by_cases h2 : 1 ≤ e ∧ e ≤ 4
    · have em := (small_mul ⟨h1, h2⟩).1
      rw [em]
      by_cases h3 : g * e ≤ 8 <;> simp [h1, h2, h3]
    · simp [h1, h2]
  · simp [h1]

theorem spec_l4Data.ev {g e m : Int} (h : GoodLocal g e m) : spec_l4Data.f g e m = some (g * e) := by
  unfold spec_l4Data.f
  rw [(small_mul h.1).1]

theorem spec_l4Many.ev {g e m : Int} (h : GoodLocal g e m) : spec_l4Many.f g e m = some (g * e + g + m) := by
  have hm := small_mul h.1
  unfold spec_l4Many.f
  simp only [spec_l4Data.ev h, Option.bind_some]
  have e1 : wrap64 (wrap64 (g * e + g) + m) = g * e + g + m := by unfold wrap64; omega
  rw [e1]

theorem spec_l2Blank.ev_l0 (n m : Nat) (hn : n ≤ 1048576) (hm : m ≤ 1048576) : ∀ (d i : Nat), i + d = n → Ev (fun k => spec_l2Blank.l0 k (n : Int) (m : Int) (i : Int) (blankM i m)) (blankM n m)
  | 0, i, hi => by
    obtain rfl : i = n := by omega
    refine Ev.step (fun k => spec_l2Blank.l0.eq_2 _ _ _ _ k) ?_
    exact ev_neg (by omega) (ev_now rfl)
  | d + 1, i, hi => by
    have ih := spec_l2Blank.ev_l0 n m hn hm d (i + 1) (by omega)
    refine Ev.step (fun k => spec_l2Blank.l0.eq_2 _ _ _ _ k) ?_
    refine ev_pos (by omega) (ev_pos (by omega) (ev_pos (by omega) (ev_pos (by simp [blankM]; omega) ?_)))
    rw [inc (by omega), Int.toNat_natCast]
    have e : blankM i m ++ [List.replicate m 0] = blankM (i + 1) m := by
      unfold blankM; rw [List.replicate_succ']
    rw [e]
    exact ih
theorem spec_l2Blank.ev (n m : Nat) (hn : n ≤ 1048576) (hm : m ≤ 1048576) : Ev (fun k => spec_l2Blank.f k (n : Int) (m : Int)) (blankM n m) := by
  unfold spec_l2Blank.f
  exact spec_l2Blank.ev_l0 n m hn hm n 0 (by omega)

def idPart (n i : Nat) : List (List Int) := (List.range n).map fun j => if j < i then (List.replicate n 0).set j 1 else List.replicate n 0
theorem idPart_length (n i : Nat) : (idPart n i).length = n := by simp [idPart]
theorem idPart_zero (n : Nat) : idPart n 0 = blankM n n := by
  apply List.ext_getElem
  · simp [idPart, blankM]
  · intro j h1 h2; simp [idPart, blankM]
theorem idPart_all (n : Nat) : idPart n n = idM n := by
  apply List.ext_getElem
  · simp [idPart, idM]
  · intro j h1 h2
    have : j < n := by simpa [idPart] using h1
    simp [idPart, idM, this]
theorem idPart_succ (n i : Nat) (hi : i < n) : (idPart n i).set i ((List.replicate n 0).set i 1) = idPart n (i + 1) := by
  apply List.ext_getElem
  · simp [idPart]
  · intro j h1 h2
    rw [List.getElem_set]
    by_cases e : i = j
    · subst e
      simp [idPart]
    · rw [if_neg e]
      simp only [idPart, List.getElem_map, List.getElem_range]
      by_cases h : j < i
      · rw [if_pos h, if_pos (by omega)]
      · rw [if_neg h, if_neg (by omega)]
theorem spec_l2Identity.ev_l0 (n : Nat) (hn : n ≤ 1048576) : ∀ (d i : Nat), i + d = n → Ev (fun k => spec_l2Identity.l0 k (n : Int) (i : Int) (idPart n i)) (idM n)
  | 0, i, hi => by
    obtain rfl : i = n := by omega
    refine Ev.step (fun k => spec_l2Identity.l0.eq_2 _ _ _ k) ?_
    exact ev_neg (by omega) (ev_now (idPart_all i))
  | d + 1, i, hi => by
    have hl := idPart_length n i
    have hg : rd_L1 (idPart n i) (i : Int) = List.replicate n 0 := by
      rw [rdSS _ i (by omega)]
      simp [idPart]
    have ih := spec_l2Identity.ev_l0 n hn d (i + 1) (by omega)
    refine Ev.step (fun k => spec_l2Identity.l0.eq_2 _ _ _ k) ?_
    rw [hg]
    refine ev_pos (by omega) (ev_pos (by omega) (ev_pos (by omega) (ev_pos (by simp; omega) ?_)))
    rw [inc (by omega), Int.toNat_natCast, idPart_succ n i (by omega)]
    exact ih
theorem spec_l2Identity.ev (n : Nat) (hn : n ≤ 1048576) : Ev (fun k => spec_l2Identity.f k (n : Int)) (idM n) := by
  unfold spec_l2Identity.f
  refine ev_bind (spec_l2Blank.ev n n hn hn) ?_
  have e : ((blankM n n).length : Int) = (n : Int) := by simp [blankM]
  rw [e, ← idPart_zero]
  exact spec_l2Identity.ev_l0 n hn n 0 (by omega)

theorem spec_l2Cauchy.ev_l1 (n m : Nat) (hn : n ≤ 1048576) (hm : m ≤ 1048576) (i : Nat) (hi : i < n) {R : List (List Int)}
    (K : Ev (fun k => spec_l2Cauchy.l0 k (m : Int) (n : Int) (wrap64 ((i : Int) + 1)) (filPart n m (cauAt m) (i + 1) 0)) R) : ∀ (d j : Nat), j + d = m →
    Ev (fun k => spec_l2Cauchy.l1 k (m : Int) (i : Int) (n : Int) (i : Int) (m : Int) (j : Int) (filPart n m (cauAt m) i j)) R
  | 0, j, hj => by
    refine Ev.step (fun k => spec_l2Cauchy.l1.eq_2 _ _ _ _ _ _ _ k) ?_
    refine ev_neg (by omega) ?_
    rw [show j = m by omega, filPart_next]
    exact K
  | d + 1, j, hj => by
    have hl := filPart_length n m (cauAt m) i j
    have hr := filPart_row (f := cauAt m) (m := m) (i := i) (j := j) hi
    refine Ev.step (fun k => spec_l2Cauchy.l1.eq_2 _ _ _ _ _ _ _ k) ?_
    simp only [rdSS0, Int.toNat_natCast]
    refine ev_pos (by omega) (ev_pos (by omega) (ev_pos (by omega) ?_))
    refine ev_bind (spec_l1Inverse.ev (mod_byte _)) ?_
    refine ev_pos (by omega) (ev_pos (by omega) ?_)
    rw [inc (by omega), show inv ((Go.bits .xor .i64 (wrap64 ((m : Int) + (i : Int))) (j : Int)) % 256) = cauAt m i j from rfl, filPart_set (cauAt m) hi]
    exact spec_l2Cauchy.ev_l1 n m hn hm i hi K d (j + 1) (by omega)
theorem spec_l2Cauchy.ev_l0 (n m : Nat) (hn : n ≤ 1048576) (hm : m ≤ 1048576) : ∀ (d i : Nat), i + d = n → Ev (fun k => spec_l2Cauchy.l0 k (m : Int) (n : Int) (i : Int) (filPart n m (cauAt m) i 0)) (tab n m (cauAt m))
  | 0, i, hi => by
    refine Ev.step (fun k => spec_l2Cauchy.l0.eq_2 _ _ _ _ k) ?_
    refine ev_neg (by omega) (ev_now ?_)
    rw [show i = n by omega, filPart_all]
  | d + 1, i, hi => by
    have hl := filPart_length n m (cauAt m) i 0
    have hr := filPart_row (f := cauAt m) (m := m) (i := i) (j := 0) (show i < n by omega)
    have ih := spec_l2Cauchy.ev_l0 n m hn hm d (i + 1) (by omega)
    refine Ev.step (fun k => spec_l2Cauchy.l0.eq_2 _ _ _ _ k) ?_
    simp only [rdSS0, Int.toNat_natCast]
    refine ev_pos (by omega) (ev_pos (by omega) (ev_pos (by omega) ?_))
    rw [hr]
    exact spec_l2Cauchy.ev_l1 n m hn hm i (by omega) (by rw [inc (by omega)]; exact ih) m 0 (by omega)
theorem spec_l2Cauchy.ev (n m : Nat) (hn : n ≤ 1048576) (hm : m ≤ 1048576) : Ev (fun k => spec_l2Cauchy.f k (n : Int) (m : Int)) (tab n m (cauAt m)) := by
  unfold spec_l2Cauchy.f
  refine ev_bind (spec_l2Blank.ev n m (by omega) (by omega)) ?_
  have e : ((blankM n m).length : Int) = (n : Int) := by simp [blankM]
  rw [e, filPart_zero n m (cauAt m)]
  exact spec_l2Cauchy.ev_l0 n m hn hm n 0 (by omega)

theorem spec_l4Matrix.ev_l1 (g e m n i : Nat) (he : 1 ≤ e ∧ e ≤ 4) (hg : g ≤ 4) (hi : i < g) (hn : n = g * e) (hn8 : n ≤ 8) (R : List (List Int)) (hR : R.length ≤ 100) {Z : List (List Int)}
    (K : Ev (fun k => spec_l4Matrix.l0 k (n : Int) (wrap64 ((i : Int) + 1)) (g : Int) (e : Int) (m : Int) (R ++ [(List.range n).map (grpAt e i)])) Z) : ∀ (d t : Nat), t + d = e →
    Ev (fun k => spec_l4Matrix.l1 k (n : Int) (i : Int) (grpPart n e i t) (t : Int) (g : Int) (e : Int) (m : Int) R) Z
  | 0, t, ht => by
    refine Ev.step (fun k => spec_l4Matrix.l1.eq_2 _ _ _ _ _ _ _ _ k) ?_
    refine ev_neg (by omega) (ev_pos (by omega) ?_)
    rw [show t = e by omega, grpPart_all n e i (by omega)]
    exact K
  | d + 1, t, ht => by
    have hl := grpPart_length n e i t
    have hie : i * e + e ≤ n := by rw [hn, ← Nat.succ_mul]; exact Nat.mul_le_mul_right _ hi
    have e1 : (i : Int) * (e : Int) = ((i * e : Nat) : Int) := by rw [Int.natCast_mul]
    refine Ev.step (fun k => spec_l4Matrix.l1.eq_2 _ _ _ _ _ _ _ _ k) ?_
    rw [e1, wrap_id (i := ((i * e : Nat) : Int)) (by omega) (by omega), show ((i * e : Nat) : Int) + (t : Int) = ((i * e + t : Nat) : Int) from (Int.natCast_add _ _).symm, wrap_id (i := ((i * e + t : Nat) : Int)) (by omega) (by omega)]
    clear e1
    refine ev_pos (by omega) (ev_pos (by omega) (ev_pos (by omega) ?_))
    rw [inc (by omega), Int.toNat_natCast, grpPart_set]
    exact spec_l4Matrix.ev_l1 g e m n i he hg hi hn hn8 R hR K d (t + 1) (by omega)
theorem spec_l4Matrix.ev_l0 (g e m n : Nat) (he : 1 ≤ e ∧ e ≤ 4) (hg : g ≤ 4) (hm : m ≤ 4) (hn : n = g * e) (hn8 : n ≤ 8) : ∀ (d i : Nat), i + d = g →
    Ev (fun k => spec_l4Matrix.l0 k (n : Int) (i : Int) (g : Int) (e : Int) (m : Int) (idM n ++ tab i n (grpAt e))) (localM g e m)
  | 0, i, hi => by
    refine Ev.step (fun k => spec_l4Matrix.l0.eq_2 _ _ _ _ _ _ k) ?_
    refine ev_neg (by omega) (ev_bind (spec_l2Cauchy.ev m n (by omega) (by omega)) (ev_pos (by rw [List.length_append, idM_length, tab_length, tab_length]; omega) (ev_now ?_)))
    rw [show i = g by omega, hn]; rfl
  | d + 1, i, hi => by
    have ih := spec_l4Matrix.ev_l0 g e m n he hg hm hn hn8 d (i + 1) (by omega)
    refine Ev.step (fun k => spec_l4Matrix.l0.eq_2 _ _ _ _ _ _ k) ?_
    refine ev_pos (by omega) (ev_pos (by omega) (ev_pos (by omega) ?_))
    rw [Int.toNat_natCast, grpPart_zero n e i]
    refine spec_l4Matrix.ev_l1 g e m n i he hg (by omega) hn hn8 _ (by rw [List.length_append, idM_length, tab_length]; omega) ?_ e 0 (by omega)
    rw [inc (by omega), List.append_assoc]
    have e1 : tab i n (grpAt e) ++ [(List.range n).map (grpAt e i)] = tab (i + 1) n (grpAt e) := by
      unfold tab
      rw [List.range_succ, List.map_append]; rfl
    rw [e1]
    exact ih
theorem spec_l4Matrix.ev {g e m : Nat} (h : GoodLocal (g : Int) (e : Int) (m : Int)) : Ev (fun k => spec_l4Matrix.f k (g : Int) (e : Int) (m : Int)) (localM g e m) := by
  unfold spec_l4Matrix.f
  have hm := (small_mul h.1).1
  obtain ⟨⟨⟨h1, h2⟩, h3, h4⟩, h5, h6, h7⟩ := h
  have e1 : (g : Int) * (e : Int) = ((g * e : Nat) : Int) := by rw [Int.natCast_mul]
  rw [e1] at h5
  unfold spec_l4Data.f
  simp only [Option.bind_some]
  rw [hm, e1]
  refine ev_bind (spec_l2Identity.ev (g * e) (by omega)) ?_
  have h0 := spec_l4Matrix.ev_l0 g e m (g * e) (by omega) (by omega) (by omega) rfl (by omega) g 0 (by omega)
  have e2 : tab 0 (g * e) (grpAt e) = [] := rfl
  rw [e2, List.append_nil] at h0
  exact h0

def canVal (g e m : Int) (l : List Int) : Bool × Bool := if GoodLocal g e m ∧ rising l (g * e + g + m).toNat = true then (decide (1 ≤ l.length) && decide ((rowI.red (someM (localM g.toNat e.toNat m.toNat) l) (g * e).toNat).2 = (g * e).toNat), true) else (false, false)
theorem some_sq {g e m : Nat} {l : List Int} (h : GoodLocal (g : Int) (e : Int) (m : Int)) (hr : rising l (g * e + g + m) = true) (hl : 1 ≤ l.length) : sqM (someM (localM g e m) l) = true ∧ (someM (localM g e m) l).length = l.length ∧ ((someM (localM g e m) l).getD 0 []).length = g * e := by
  have hin := rising_in hr
  have hlen := rising_len hr
  have hok := someM_ok (localM_rows g e m) (fun j hj => by rw [localM_length]; exact hin j hj)
  have h8 : (g : Int) * (e : Int) ≤ 8 := h.2.1
  have hc : (g : Int) * (e : Int) = ((g * e : Nat) : Int) := (Int.natCast_mul g e).symm
  have hg := h.1.1
  have hm := h.2.2
  have h0 : ((someM (localM g e m) l).getD 0 []).length = g * e := (RowK.at_all (O := rowI) hok (i := 0) (by rw [someM_length]; omega)).2
  refine ⟨sqM_iff.2 ⟨by rw [someM_length]; omega, by omega, fun r hr => by rw [h0]; exact hok r hr⟩, someM_length _ _, h0⟩
theorem spec_CanDecode.ev (g e m : Int) (l : List Int) (hl : l.length ≤ 1048576) (hw : ∀ x ∈ l, (Lit.int .i64 x).wf = true) : Ev (fun k => spec_CanDecode.f k g e m l) (canVal g e m l) := by
  unfold spec_CanDecode.f canVal
  simp only [spec_GoodLocal.ev, Option.bind_some, decide_eq_true_eq]
  by_cases h : GoodLocal g e m
  · refine ev_pos h ?_
    simp only [spec_l4Many.ev h, Option.bind_some]
    obtain ⟨a, b, c, rfl, rfl, rfl, ha1, ha4, hb1, hb4, hab, hc1, hc4, he⟩ := GoodLocal_nat h
    have hsum : (a : Int) * (b : Int) + (a : Int) + (c : Int) = ((a * b + a + c : Nat) : Int) := by rw [he]; omega
    have e2 : ((a : Int) * (b : Int)).toNat = a * b := by rw [he, Int.toNat_natCast]
    rw [hsum, e2, Int.toNat_natCast, Int.toNat_natCast, Int.toNat_natCast, Int.toNat_natCast]
    refine ev_bind (spec_l1Some.ev l (a * b + a + c) (by omega) hl hw) ?_
    refine Ev.step (fun k => spec_CanDecode.j0.eq_2 _ _ _ _ _ k) ?_
    by_cases hr : rising l (a * b + a + c) = true
    · rw [if_pos ⟨h, hr⟩]
      refine ev_neg (by rw [hr]; decide) ?_
      by_cases h0 : l.length = 0
      · refine ev_pos (by omega) (ev_now ?_)
        rw [decide_eq_false (show ¬ 1 ≤ l.length by omega)]; rfl
      · refine ev_neg (by omega) ?_
        refine ev_bind (spec_l4Matrix.ev h) ?_
        simp only [spec_l4Data.ev h, Option.bind_some]
        rw [he]
        refine ev_bind (spec_l3All.ev (a * b) (by omega)) ?_
        have hin := rising_in hr
        have hlen := rising_len hr
        have hmul : 1 ≤ a * b := Nat.mul_pos ha1 hb1
        have hg := goodM_of (localM_rows a b c) (by rw [localM_length]; omega) (by rw [localM_length]; omega) hmul (by omega)
        have hg0 := (goodM_iff hg).1
        have hlen0 : ((localM a b c).getD 0 []).length = a * b := by
          have := (RowK.at_all (O := rowI) (P := okI (a * b)) (localM_rows a b c) (i := 0) (by omega)).2
          exact this
        refine ev_bind (spec_l2Part.ev (localM a b c) l (allI (a * b)) hg (by rw [allI_length]; omega) hl (fun j hj => by rw [allI_length] at hj; rw [allI_rd hj, hlen0]; omega) (fun j hj => by rw [localM_length]; exact hin j hj)) ?_
        rw [partM_some (localM_rows a b c) (fun j hj => by rw [localM_length]; exact hin j hj)]
        obtain ⟨s1, s2, s3⟩ := some_sq h hr (by omega)
        rw [spec_l2Rank.ev (by omega) s1, s3]
        refine ev_now ?_
        rw [decide_eq_true (show 1 ≤ l.length by omega), Bool.true_and]
        congr 1
        exact Bool.eq_iff_iff.2 (by simp only [beq_iff_eq, decide_eq_true_eq]; omega)
    · rw [if_neg (fun z => hr z.2)]
      have hf : rising l (a * b + a + c) = false := by simpa using hr
      exact ev_pos (by rw [hf]; rfl) (ev_now rfl)
  · rw [if_neg (fun z => h z.1)]
    refine ev_neg h ?_
    refine Ev.step (fun k => spec_CanDecode.j0.eq_2 _ _ _ _ _ k) ?_
    exact ev_pos rfl (ev_now rfl)

theorem laws_toLocal.ev (g e m : Int) : laws_toLocal.f g e m = some (g, e, m) := rfl

theorem impl_within.ev (a b c : Int) : impl_within.f a b c = some (decide (b ≤ a ∧ a ≤ c)) := by
  unfold impl_within.f
  by_cases h : a ≥ b
  · rw [if_pos h]; simp [h]
  · rw [if_neg h]; simp; omega

theorem impl_isIncreasing.ev_l0 (l : List Int) (n : Nat) (hn : n ≤ 16) (hl : l.length ≤ 1048576) (hw : ∀ x ∈ l, (Lit.int .i64 x).wf = true) : ∀ (d i : Nat), i + d = l.length → (∀ j, j < i → riseAt l n j = true) → Ev (fun k => impl_isIncreasing.l0 k l (n : Int) l (l.length : Int) (i : Int)) (rising l n)
  | 0, i, hi, ha => by
    refine Ev.step (fun k => impl_isIncreasing.l0.eq_2 _ _ _ _ _ k) ?_
    exact ev_neg (by omega) (ev_now (rising_yes (fun j hj => ha j (by omega))).symm)
  | d + 1, i, hi, ha => by
    have e : wrap64 ((n : Int) - 1) = (n : Int) - 1 := by unfold wrap64; omega
    refine Ev.step (fun k => impl_isIncreasing.l0.eq_2 _ _ _ _ _ k) ?_
    refine ev_pos (by omega) (ev_pos (by omega) (ev_pos (by omega) ?_))
    simp only [impl_within.ev, Option.bind_some, decide_eq_true_eq, e]
    by_cases h : 0 ≤ rd l (i : Int) ∧ rd l (i : Int) ≤ (n : Int) - 1
    · refine ev_pos h ?_
      by_cases h0 : i = 0
      · subst h0
        refine ev_neg (by omega) ?_
        rw [inc (by omega)]
        refine impl_isIncreasing.ev_l0 l n hn hl hw d 1 (by omega) (fun j hj => ?_)
        have : j = 0 := by omega
        subst this
        exact riseAt_yes h (.inl rfl)
      · have e2 : wrap64 ((i : Int) - 1) = ((i - 1 : Nat) : Int) := by unfold wrap64; omega
        refine ev_pos (by omega) ?_
        rw [e2]
        refine ev_pos (by omega) (ev_pos (by omega) ?_)
        by_cases h2 : rd l (i : Int) ≤ rd l ((i - 1 : Nat) : Int)
        · exact ev_pos h2 (ev_now (rising_no (i := i) (by omega) (riseAt_no (fun z => by rcases z.2 with z | z <;> omega))).symm)
        · refine ev_neg h2 ?_
          rw [inc (by omega)]
          refine impl_isIncreasing.ev_l0 l n hn hl hw d (i + 1) (by omega) (fun j hj => ?_)
          by_cases ej : j = i
          · subst ej; exact riseAt_yes h (.inr (by omega))
          · exact ha j (by omega)
    · exact ev_neg h (ev_now (rising_no (i := i) (by omega) (riseAt_no (fun z => h z.1))).symm)
theorem impl_isIncreasing.ev (l : List Int) (n : Nat) (hn : n ≤ 16) (hl : l.length ≤ 1048576) (hw : ∀ x ∈ l, (Lit.int .i64 x).wf = true) : Ev (fun k => impl_isIncreasing.f k l (n : Int)) (rising l n) := by
  unfold impl_isIncreasing.f
  exact impl_isIncreasing.ev_l0 l n hn hl hw l.length 0 (by omega) (fun j hj => absurd hj (by omega))

theorem impl_added.ev_l0 (v w : List Int) (hv : Bytes v) (hw : Bytes w) (hl : v.length = w.length) (hs : v.length < 140737488355328) : ∀ (n i : Nat) (o : List Int), i + n = v.length → o = (addV v w).take i →
    Ev (fun k => impl_added.l0 k w o v (v.length : Int) (i : Int)) (addV v w)
  | 0, i, o, hi, ho => by
    refine Ev.step (fun k => impl_added.l0.eq_2 _ _ _ _ _ k) ?_
    refine ev_neg (by omega) (ev_now ?_)
    subst ho
    rw [List.take_of_length_le (by rw [addV_length]; omega)]
  | n + 1, i, o, hi, ho => by
    have hz := addV_length v w
    have hlen : o.length = i := by rw [ho, List.length_take, hz]; omega
    refine Ev.step (fun k => impl_added.l0.eq_2 _ _ _ _ _ k) ?_
    refine ev_pos (by omega) (ev_pos (by omega) (ev_pos (by omega) (ev_pos (by omega) (ev_pos (by omega) ?_))))
    rw [inc (by omega), xor_u8 (bytes_rd hv (by omega)) (bytes_rd hw (by omega)), rd_get (by omega), rd_get (by omega)]
    refine impl_added.ev_l0 v w hv hw hl hs n (i + 1) _ (by omega) ?_
    rw [List.take_succ_eq_append_getElem (by omega), ← ho]
    simp [addV]
theorem impl_added.ev {v w : List Int} (hv : Bytes v) (hw : Bytes w) (hl : v.length = w.length) (hs : v.length < 140737488355328) : Ev (fun k => impl_added.f k v w) (addV v w) := by
  unfold impl_added.f
  exact impl_added.ev_l0 v w hv hw hl hs v.length 0 [] (by omega) rfl

theorem impl_scaled.ev_l0 (a : Int) (ha : Byte a) (v : List Int) (hv : Bytes v) (hs : v.length < 140737488355328) : ∀ (n i : Nat) (o : List Int), i + n = v.length → o = (scale a v).take i →
    Ev (fun k => impl_scaled.l0 k a o v (v.length : Int) (i : Int)) (scale a v)
  | 0, i, o, hi, ho => by
    refine Ev.step (fun k => impl_scaled.l0.eq_2 _ _ _ _ _ k) ?_
    refine ev_neg (by omega) (ev_now ?_)
    subst ho
    rw [List.take_of_length_le (by rw [scale_length]; omega)]
  | n + 1, i, o, hi, ho => by
    have hz := scale_length a v
    have hlen : o.length = i := by rw [ho, List.length_take, hz]; omega
    refine Ev.step (fun k => impl_scaled.l0.eq_2 _ _ _ _ _ k) ?_
    refine ev_pos (by omega) (ev_pos (by omega) (ev_pos (by omega) ?_))
    refine ev_bind (impl_Times.ev ha (bytes_rd hv (by omega))) ?_
    refine ev_pos (by omega) ?_
    rw [inc (by omega), rd_get (by omega)]
    refine impl_scaled.ev_l0 a ha v hv hs n (i + 1) _ (by omega) ?_
    rw [List.take_succ_eq_append_getElem (by omega), ← ho]
    simp [scale]
theorem impl_scaled.ev {a : Int} (ha : Byte a) {v : List Int} (hv : Bytes v) (hs : v.length < 140737488355328) : Ev (fun k => impl_scaled.f k a v) (scale a v) := by
  unfold impl_scaled.f
  exact impl_scaled.ev_l0 a ha v hv hs v.length 0 [] (by omega) rfl

theorem impl_Inverse.ev {a : Int} (ha : Byte a) : Ev (fun k => impl_Inverse.f k a) (inv a) := by
  unfold impl_Inverse.f
  exact ev_bind (impl_power.ev ha 254 (by decide)) (ev_now (inv_pow a).symm)

theorem impl_rankOf.ev {l : List (List Int)} (h : 1 ≤ l.length) (hs : sqM l = true) : impl_rankOf.f l = some (((rowI.red l (l.getD 0 []).length).2 : Nat) : Int) := by
  unfold impl_rankOf.f
  rw [if_neg (by omega), if_pos hs]

theorem impl_GoodLocal.ev (g e m : Int) : impl_GoodLocal.f g e m = some (decide (GoodLocal g e m)) := by
  unfold impl_GoodLocal.f
  simp only [impl_within.ev, Option.bind_some, decide_eq_true_eq]
  by_cases h1 : 1 ≤ g ∧ g ≤ 4
  · by_cases h2 : 1 ≤ e ∧ e ≤ 4
    · have em := (small_mul ⟨h1, h2⟩).1
      rw [em]
      by_cases h3 : g * e ≤ 8 <;> simp [h1, h2, h3]
    · simp [h1, h2]
  · simp [h1]

theorem impl_Local_all.ev {g e m : Int} (h : GoodLocal g e m) : impl_Local_all.f g e m = some (g * e + g + m) := by
  have hm := small_mul h.1
  unfold impl_Local_all.f
  simp only [impl_Local_data.ev h, Option.bind_some]
  have e1 : wrap64 (wrap64 (g * e + g) + m) = g * e + g + m := by unfold wrap64; omega
  rw [e1]


theorem impl_localRows.ev {g e m : Nat} (h : GoodLocal (g : Int) (e : Int) (m : Int)) : Ev (fun k => impl_localRows.f k (g : Int) (e : Int) (m : Int)) (localM g e m) := by
  unfold impl_localRows.f
  have hm := (small_mul h.1).1
  obtain ⟨⟨⟨h1, h2⟩, h3, h4⟩, h5, h6, h7⟩ := h
  have e1 : (g : Int) * (e : Int) = ((g * e : Nat) : Int) := by rw [Int.natCast_mul]
  rw [e1] at h5
  unfold impl_Local_data.f
  simp only [Option.bind_some]
  rw [hm, e1]
  refine ev_bind (impl_identity.ev (g * e) (by omega)) ?_
  have hgr : Ev (fun k => impl_grpRows.f (e : Int) k (g : Int) ((g * e : Nat) : Int)) (tab g (g * e) (grpAt e)) := by
    unfold impl_grpRows.f
    refine impl_filled.ev g (g * e) (grpAt e) (by omega) (by omega) (fun i hi j hj => ?_)
    unfold impl_grpRows.E
    refine ev_pos (by omega) (ev_now ?_)
    unfold grpAt
    have : (j : Int) / (e : Int) = ((j / e : Nat) : Int) := by rw [Int.natCast_ediv]
    rw [this]
    by_cases c : j / e = i
    · rw [if_pos c, if_pos (by omega)]
    · rw [if_neg c, if_neg (by omega)]
  refine ev_bind hgr (ev_pos (by rw [idM_length, tab_length]; omega) (ev_bind (impl_cauchy.ev m (g * e) (by omega) (by omega)) (ev_pos (by rw [List.length_append, idM_length, tab_length, tab_length]; omega) (ev_now rfl))))

theorem impl_CanDecode.ev_l0 {a b c : Nat} (h : GoodLocal (a : Int) (b : Int) (c : Int)) (l : List Int) (hr : rising l (a * b + a + c) = true) (hl : l.length ≤ 16) : ∀ (d i : Nat) (o : List (List Int)), i + d = l.length → o = (someM (localM a b c) l).take i →
    Ev (fun k => impl_CanDecode.l0 k (localM a b c) o l (l.length : Int) (i : Int) (a : Int) (b : Int) (c : Int)) (decide (1 ≤ l.length) && decide ((rowI.red (someM (localM a b c) l) (a * b)).2 = a * b), true)
  | 0, i, o, hi, ho => by
    refine Ev.step (fun k => impl_CanDecode.l0.eq_2 _ _ _ _ _ _ _ _ k) ?_
    refine ev_neg (by omega) ?_
    rw [ho, List.take_of_length_le (by rw [someM_length]; omega)]
    have he : (a : Int) * (b : Int) = ((a * b : Nat) : Int) := (Int.natCast_mul a b).symm
    have hab1 : 1 ≤ a * b := Nat.mul_pos (by have := h.1.1.1; omega) (by have := h.1.2.1; omega)
    by_cases h0 : l.length = 0
    · have e0 : l = [] := List.eq_nil_of_length_eq_zero h0
      subst e0
      unfold impl_rankOf.f
      rw [if_pos (by rw [someM_length]; rfl)]
      simp only [impl_Local_data.ev h, Option.bind_some]
      refine ev_now ?_
      rw [he]
      have : ((0 : Int) == ((a * b : Nat) : Int)) = false := by simp only [beq_eq_false_iff_ne]; omega
      rw [this]; rfl
    · obtain ⟨s1, s2, s3⟩ := some_sq h hr (by omega)
      rw [impl_rankOf.ev (by omega) s1, s3]
      simp only [impl_Local_data.ev h, Option.bind_some]
      refine ev_now ?_
      rw [he, decide_eq_true (show 1 ≤ l.length by omega), Bool.true_and]
      congr 1
      exact Bool.eq_iff_iff.2 (by simp only [beq_iff_eq, decide_eq_true_eq]; omega)
  | d + 1, i, o, hi, ho => by
    have hin := rising_in hr i (by omega)
    have hlen : o.length = i := by rw [ho, List.length_take, someM_length]; omega
    have hml := localM_length a b c
    refine Ev.step (fun k => impl_CanDecode.l0.eq_2 _ _ _ _ _ _ _ _ k) ?_
    refine ev_pos (by omega) (ev_pos (by omega) (ev_pos (by omega) (ev_pos (by omega) (ev_pos (by omega) (ev_pos (by omega) ?_)))))
    rw [inc (by omega), rdSS0]
    exact impl_CanDecode.ev_l0 h l hr hl d (i + 1) _ (by omega) (by rw [someM_succ _ (by omega), ← ho])
theorem impl_CanDecode.ev (g e m : Int) (l : List Int) (hl : l.length ≤ 1048576) (hw : ∀ x ∈ l, (Lit.int .i64 x).wf = true) : Ev (fun k => impl_CanDecode.f k g e m l) (canVal g e m l) := by
  unfold impl_CanDecode.f canVal
  simp only [impl_GoodLocal.ev, Option.bind_some, decide_eq_true_eq]
  by_cases h : GoodLocal g e m
  · refine ev_pos h ?_
    simp only [impl_Local_all.ev h, Option.bind_some]
    obtain ⟨a, b, c, rfl, rfl, rfl, ha1, ha4, hb1, hb4, hab, hc1, hc4, he⟩ := GoodLocal_nat h
    have hsum : (a : Int) * (b : Int) + (a : Int) + (c : Int) = ((a * b + a + c : Nat) : Int) := by rw [he]; omega
    have e2 : ((a : Int) * (b : Int)).toNat = a * b := by rw [he, Int.toNat_natCast]
    rw [hsum, e2, Int.toNat_natCast, Int.toNat_natCast, Int.toNat_natCast, Int.toNat_natCast]
    refine ev_bind (impl_isIncreasing.ev l (a * b + a + c) (by omega) hl hw) ?_
    refine Ev.step (fun k => impl_CanDecode.j0.eq_2 _ _ _ _ _ k) ?_
    by_cases hr : rising l (a * b + a + c) = true
    · rw [if_pos ⟨h, hr⟩]
      have hlen := rising_len hr
      refine ev_neg (by rw [hr]; decide) (ev_bind (impl_localRows.ev h) ?_)
      exact impl_CanDecode.ev_l0 h l hr (by omega) l.length 0 [] (by omega) rfl
    · rw [if_neg (fun z => hr z.2)]
      have hf : rising l (a * b + a + c) = false := by simpa using hr
      exact ev_pos (by rw [hf]; rfl) (ev_now rfl)
  · rw [if_neg (fun z => h z.1)]
    refine ev_neg h ?_
    refine Ev.step (fun k => impl_CanDecode.j0.eq_2 _ _ _ _ _ k) ?_
    exact ev_pos rfl (ev_now rfl)

theorem FnExactCanDecode : ∀ (g e m : Int) (l : List Int), ((Lit.int .i64 g).wf = true ∧ (Lit.int .i64 e).wf = true ∧ (Lit.int .i64 m).wf = true) → (l.length ≤ maxLen ∧ ∀ x ∈ l, (Lit.int .i64 x).wf = true) → ∃ k, laws_FnExactCanDecode.f k g e m l = some true := by
  intro g e m l _ hl
  refine Ev.rounds ?_
  unfold laws_FnExactCanDecode.f
  by_cases c : (l.length : Int) > 1048576
  · exact ev_pos c (ev_now rfl)
  · refine ev_neg c ?_
    have ht := laws_toIntS.ev l (by omega)
    simp only [laws_toLocal.ev, Option.bind_some]
    refine ev_bind ht (ev_bind (spec_CanDecode.ev g e m l (by omega) hl.2) (ev_bind ht (ev_bind (impl_CanDecode.ev g e m l (by omega) hl.2) ?_)))
    refine ev_neg (by simp) ?_
    refine Ev.step (fun k => laws_FnExactCanDecode.j0.eq_2 _ _ _ k) ?_
    exact ev_neg (by simp) (ev_bind ht (ev_bind (laws_eqIntS.ev l (by omega)) (ev_pos rfl (ev_now rfl))))

end Go.Proofs.Ytajikfnpcobnpaa.Pure
