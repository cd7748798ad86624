/- The given program's EncodeLocal returns what the reference's EncodeLocal returns, for all codes and lists of texts, and keeps to itself what it was given and what it returns; there is no condition. -/
import Derived.Test.YtlmcobjpmonkfaaPFnExactEncodeLocalx
import Derived.Test.YtlmcobjpmonkfaaKit
import Derived.Test.YtlmcobjpmonkfaaTxt
namespace Go.Proofs.Ytlmcobjpmonkfaa.Pure
open Go.RowKit Go.Proofs.Ytlmcobjpmonkfaa.PFnExactEncodeLocal Go.Proofs.YtlmcobjpmonkfaaW.PrintWords Go.Proofs.YtlmcobjpmonkfaaW.PrintLast Go.Proofs.Ytlmcobjpmonkfaa.Gf Go.Proofs.Ytlmcobjpmonkfaa.Kit Go.Proofs.Ytlmcobjpmonkfaa.KitW
set_option linter.unusedVariables false
set_option linter.unusedSimpArgs false

theorem rdSS (l : List (List Int)) (i : Nat) (h : i < l.length) : rd_L1 l (i : Int) = l[i] := by unfold rd_L1; simp [List.getD, h]
theorem rdSS0 (l : List (List Int)) (i : Int) : rd_L1 l i = l.getD i.toNat [] := rfl
theorem impl_Times.ev_l0 (b : Nat) (hb : b < 256) : ∀ (n i o x : Nat), i + n = 8 → o < 256 → x < 256 →
    Ev (fun k => impl_Times.l0 k (b : Int) (o : Int) (i : Int) (x : Int)) ((T n o x (b / 2 ^ i) : Nat) : Int)
  | 0, i, o, x, hi, ho, hx => by
    refine Ev.step (fun k => impl_Times.l0.eq_2 _ _ _ _ k) ?_
    refine ev_neg (by omega) (ev_now ?_)
    simp only [T]
    omega
  | n + 1, i, o, x, hi, ho, hx => by
    refine Ev.step (fun k => impl_Times.l0.eq_2 _ _ _ _ k) ?_
    refine ev_pos (by omega) (ev_pos (by omega) ?_)
    have e1 : shr .u8 (b : Int) (i : Int) = ((b / 2 ^ i : Nat) : Int) := by
      unfold shr
      rw [Nat.min_eq_left (by simp only [IntKind.bits]; omega)]
      simp
    have hd : b / 2 ^ i < 256 := Nat.lt_of_le_of_lt (Nat.div_le_self _ _) hb
    have e2 : wrap64 ((x : Int) * 2) = ((2 * x : Nat) : Int) := by rw [wrap_id (by omega) (by omega)]; omega
    have e3 : wrap64 ((i : Int) + 1) = ((i + 1 : Nat) : Int) := by rw [wrap_id (by omega) (by omega)]; omega
    rw [e1, and1_u8 hd, e2, e3]
    have e4 : Go.bits .xor .i64 (o : Int) (x : Int) = ((o ^^^ x : Nat) : Int) := xor_i64 (by omega) (by omega)
    have e5 : Go.bits .xor .i64 ((2 * x : Nat) : Int) 283 = ((2 * x ^^^ 283 : Nat) : Int) := xor_i64 (m := 2 * x) (n := 283) (by omega) (by omega)
    have e6 : b / 2 ^ i / 2 = b / 2 ^ (i + 1) := by rw [Nat.div_div_eq_div_mul, Nat.pow_succ]
    rw [e4, e5]
    have hT : T (n + 1) o x (b / 2 ^ i) = T n (if b / 2 ^ i % 2 = 1 then o ^^^ x else o) (xt x) (b / 2 ^ (i + 1)) := by rw [T, e6]
    rw [hT]
    have hxt := xt_lt hx
    have hox := xor_lt ho hx
    by_cases h1 : b / 2 ^ i % 2 = 1
    · rw [if_pos h1]
      refine ev_pos (by omega) ?_
      by_cases h2 : 2 * x > 255
      · refine ev_pos (by omega) ?_
        have : xt x = 2 * x ^^^ 283 := by unfold xt; rw [if_pos h2]
        rw [this] at hxt ⊢
        exact impl_Times.ev_l0 b hb n (i + 1) _ _ (by omega) hox hxt
      · refine ev_neg (by omega) ?_
        have : xt x = 2 * x := by unfold xt; rw [if_neg h2]
        rw [this] at hxt ⊢
        exact impl_Times.ev_l0 b hb n (i + 1) _ _ (by omega) hox hxt
    · rw [if_neg h1]
      refine ev_neg (by omega) ?_
      by_cases h2 : 2 * x > 255
      · refine ev_pos (by omega) ?_
        have : xt x = 2 * x ^^^ 283 := by unfold xt; rw [if_pos h2]
        rw [this] at hxt ⊢
        exact impl_Times.ev_l0 b hb n (i + 1) _ _ (by omega) ho hxt
      · refine ev_neg (by omega) ?_
        have : xt x = 2 * x := by unfold xt; rw [if_neg h2]
        rw [this] at hxt ⊢
        exact impl_Times.ev_l0 b hb n (i + 1) _ _ (by omega) ho hxt
theorem impl_Times.ev {a b : Int} (ha : Byte a) (hb : Byte b) : Ev (fun k => impl_Times.f k a b) (mul a b) := by
  obtain ⟨m, hm, rfl⟩ := ha.nat
  obtain ⟨n, hn, rfl⟩ := hb.nat
  unfold impl_Times.f
  rw [wrap_id (by omega) (by omega)]
  have h := impl_Times.ev_l0 n hn 8 0 0 m rfl (by decide) hm
  exact ev_eq h (by unfold Gf.mul gm; simp)

theorem impl_power.ev_l0 : ∀ (N n : Nat) (a o : Int), n ≤ N → n < 4294967296 → Byte a → Byte o → Ev (fun k => impl_power.l0 k a (n : Int) o) (mul o (pow a n)) := by
  intro N
  induction N with
  | zero =>
    intro n a o hN hn ha ho
    obtain rfl : n = 0 := by omega
    refine Ev.step (fun k => impl_power.l0.eq_2 _ _ _ k) ?_
    exact ev_neg (by omega) (ev_now (by rw [pow_zero, mul_one ho]))
  | succ N ih =>
    intro n a o hN hn ha ho
    refine Ev.step (fun k => impl_power.l0.eq_2 _ _ _ k) ?_
    by_cases h0 : n = 0
    · subst h0
      exact ev_neg (by omega) (ev_now (by rw [pow_zero, mul_one ho]))
    refine ev_pos (by omega) ?_
    have e : ((n : Int) / 2) = ((n / 2 : Nat) : Int) := by omega
    have haa := Byte.mul ha a
    have hsq : pow (mul a a) (n / 2) = pow a (2 * (n / 2)) := by rw [pow_mul ha, pow_two ha]
    rw [and1_i64 hn, e]
    by_cases h1 : n % 2 = 1
    · refine ev_pos (by omega) ?_
      refine ev_bind (impl_Times.ev ho ha) (ev_bind (impl_Times.ev ha ha) ?_)
      refine ev_eq (ih (n / 2) _ _ (by omega) (by omega) haa (Byte.mul ho a)) ?_
      have hn2 : n = 1 + 2 * (n / 2) := by omega
      rw [hsq, mul_assoc ho ha (Byte.pow ha _)]
      conv => rhs; rw [hn2, pow_add ha, pow_one ha]
    · refine ev_neg (by omega) ?_
      refine ev_bind (impl_Times.ev ha ha) ?_
      refine ev_eq (ih (n / 2) _ _ (by omega) (by omega) haa ho) ?_
      have hn2 : n = 2 * (n / 2) := by omega
      rw [hsq, ← hn2]
theorem impl_power.ev {a : Int} (ha : Byte a) (n : Nat) (hn : n < 4294967296) : Ev (fun k => impl_power.f k a (n : Int)) (pow a n) := by
  unfold impl_power.f
  refine ev_eq (impl_power.ev_l0 n n a 1 (Nat.le_refl _) hn ha .one) ?_
  exact one_mul (Byte.pow ha n)

theorem impl_identity.ev_l0 (n : Nat) (hn : n ≤ 1048576) : ∀ (d i : Nat) (o : List (List Int)), i + d = n → o = (idM n).take i → Ev (fun k => impl_identity.l0 k (n : Int) o (n : Int) (i : Int)) (idM n)
  | 0, i, o, hi, ho => by
    refine Ev.step (fun k => impl_identity.l0.eq_2 _ _ _ _ k) ?_
    refine ev_neg (by omega) (ev_now ?_)
    rw [ho, List.take_of_length_le (by simp [idM]; omega)]
  | d + 1, i, o, hi, ho => by
    have hl : o.length = i := by rw [ho, List.length_take]; simp [idM]; omega
    refine Ev.step (fun k => impl_identity.l0.eq_2 _ _ _ _ k) ?_
    simp only [Option.bind_some, Int.toNat_natCast, List.length_replicate]
    refine ev_pos (by omega) (ev_pos (by omega) (ev_pos (by omega) (ev_pos (by omega) (ev_pos (by omega) (ev_pos (by omega) ?_)))))
    rw [inc (by omega)]
    refine impl_identity.ev_l0 n hn d (i + 1) _ (by omega) ?_
    rw [List.take_succ_eq_append_getElem (by simp [idM]; omega), ← ho]
    simp [idM]
theorem impl_identity.ev (n : Nat) (hn : n ≤ 1048576) : Ev (fun k => impl_identity.f k (n : Int)) (idM n) := by
  unfold impl_identity.f
  exact impl_identity.ev_l0 n hn n 0 [] (by omega) rfl

theorem impl_filled.ev_l1 {E : Nat → Int → Int → Option Int} (n m : Nat) (f : Nat → Nat → Int) (hm : m ≤ 1048576) (i : Nat) (hE : ∀ j, j < m → Ev (fun k => E k (i : Int) (j : Int)) (f i j)) (out : List (List Int)) (ho : out.length < 5864062014805) {R : List (List Int)}
    (K : Ev (fun k => impl_filled.l0 E k (m : Int) (out ++ [(List.range m).map (f i)]) (n : Int) (wrap64 ((i : Int) + 1))) R) : ∀ (d j : Nat) (o : List Int), j + d = m → o = (List.range j).map (f i) →
    Ev (fun k => impl_filled.l1 E k (m : Int) out (i : Int) o (n : Int) (i : Int) (m : Int) (j : Int)) R
  | 0, j, o, hj, hoj => by
    refine Ev.step (fun k => impl_filled.l1.eq_2 _ _ _ _ _ _ _ _ _ k) ?_
    refine ev_neg (by omega) (ev_pos ho ?_)
    rw [hoj, show j = m by omega]
    exact K
  | d + 1, j, o, hj, hoj => by
    have hol : o.length = j := by rw [hoj]; simp
    refine Ev.step (fun k => impl_filled.l1.eq_2 _ _ _ _ _ _ _ _ _ k) ?_
    refine ev_pos (by omega) (ev_bind (hE j (by omega)) (ev_pos (by omega) ?_))
    rw [inc (by omega)]
    refine impl_filled.ev_l1 n m f hm i hE out ho K d (j + 1) _ (by omega) ?_
    rw [hoj, List.range_succ, List.map_append]
    rfl
theorem impl_filled.ev_l0 {E : Nat → Int → Int → Option Int} (n m : Nat) (f : Nat → Nat → Int) (hn : n ≤ 1048576) (hm : m ≤ 1048576) (hE : ∀ i, i < n → ∀ j, j < m → Ev (fun k => E k (i : Int) (j : Int)) (f i j)) : ∀ (d i : Nat) (o : List (List Int)), i + d = n → o = tab i m f →
    Ev (fun k => impl_filled.l0 E k (m : Int) o (n : Int) (i : Int)) (tab n m f)
  | 0, i, o, hi, ho => by
    refine Ev.step (fun k => impl_filled.l0.eq_2 _ _ _ _ _ k) ?_
    refine ev_neg (by omega) (ev_now ?_)
    rw [ho, show i = n by omega]
  | d + 1, i, o, hi, ho => by
    have hol : o.length = i := by rw [ho, tab_length]
    have ih := impl_filled.ev_l0 n m f hn hm hE d (i + 1) (o ++ [(List.range m).map (f i)]) (by omega) (by
      rw [ho]
      unfold tab
      rw [List.range_succ, List.map_append]
      rfl)
    refine Ev.step (fun k => impl_filled.l0.eq_2 _ _ _ _ _ k) ?_
    refine ev_pos (by omega) ?_
    exact impl_filled.ev_l1 n m f hm i (hE i (by omega)) o (by omega) (by rw [inc (by omega)]; exact ih) m 0 [] (by omega) rfl
theorem impl_filled.ev {E : Nat → Int → Int → Option Int} (n m : Nat) (f : Nat → Nat → Int) (hn : n ≤ 1048576) (hm : m ≤ 1048576) (hE : ∀ i, i < n → ∀ j, j < m → Ev (fun k => E k (i : Int) (j : Int)) (f i j)) : Ev (fun k => impl_filled.f E k (n : Int) (m : Int)) (tab n m f) := by
  unfold impl_filled.f
  exact impl_filled.ev_l0 n m f hn hm hE n 0 [] (by omega) rfl

theorem impl_cauchy.ev (n m : Nat) (hn : n ≤ 1048576) (hm : m ≤ 1048576) : Ev (fun k => impl_cauchy.f k (n : Int) (m : Int)) (tab n m (cauAt m)) := by
  unfold impl_cauchy.f
  refine impl_filled.ev n m (cauAt m) hn hm (fun i hi j hj => ?_)
  unfold impl_cauchy.E
  exact ev_eq (impl_power.ev (mod_byte _) 254 (by decide)) (inv_pow _).symm

theorem impl_Local_data.ev {g e m : Int} (h : GoodLocal g e m) : impl_Local_data.f g e m = some (g * e) := by
  unfold impl_Local_data.f
  rw [(small_mul h.1).1]

theorem laws_toLocal.ev (g e m : Int) : laws_toLocal.f g e m = some (g, e, m) := rfl

theorem laws_szStringS.ev_l0 (l : List ByteArray) (hl : l.length ≤ 1048576) (hr : ∀ r ∈ l, r.size ≤ maxLen) : ∀ (n i : Nat) (t : Int), i + n = l.length → 0 ≤ t → t ≤ 1048576 →
    Ev (fun k => laws_szStringS.l0 k l t (i : Int)) (if (totT (l.drop i) : Int) ≤ t then t - (totT (l.drop i) : Int) else -1)
  | 0, i, t, hi, h0, h1 => by
    refine Ev.step (fun k => laws_szStringS.l0.eq_2 _ _ _ k) ?_
    refine ev_neg (by omega) (ev_now ?_)
    rw [List.drop_of_length_le (by omega)]
    simp [totT, h0]
  | n + 1, i, t, hi, h0, h1 => by
    have hlt : i < l.length := by omega
    have hm : i < 4611686018427387904 := by omega
    have he : totT (l.drop i) = l[i].size + totT (l.drop (i + 1)) := by rw [List.drop_eq_getElem_cons hlt]; rfl
    have hb := hr _ (List.getElem_mem hlt)
    unfold maxLen at hb
    have hw : wrap64 (t - (l[i].size : Int)) = t - (l[i].size : Int) := by unfold wrap64; omega
    refine Ev.step (fun k => laws_szStringS.l0.eq_2 _ _ _ k) ?_
    refine ev_pos (by omega) (ev_pos (by omega) ?_)
    rw [rdOf_nat, txt_get hlt, he, hw]
    by_cases h : (l[i].size : Int) ≤ t
    · refine ev_neg (by omega) ?_
      rw [inc hm]
      refine ev_eq (laws_szStringS.ev_l0 l hl hr n (i + 1) (t - (l[i].size : Int)) (by omega) (by omega) (by omega)) ?_
      by_cases h2 : (totT (l.drop (i + 1)) : Int) ≤ t - (l[i].size : Int)
      · rw [if_pos h2, if_pos (by omega)]; omega
      · rw [if_neg h2, if_neg (by omega)]
    · refine ev_pos (by omega) (ev_now ?_)
      rw [if_neg (by omega)]
theorem laws_szStringS.ev (l : List ByteArray) (hl : l.length ≤ maxLen) (hr : ∀ r ∈ l, r.size ≤ maxLen) (t : Int) (h0 : 0 ≤ t) (h1 : t ≤ 1048576) :
    Ev (fun k => laws_szStringS.f k l t) (if (l.length : Int) + (totT l : Int) ≤ t then t - (l.length : Int) - (totT l : Int) else -1) := by
  unfold laws_szStringS.f
  have e : wrap64 (t - (l.length : Int)) = t - (l.length : Int) := by unfold maxLen at hl; unfold wrap64; omega
  rw [e]
  by_cases h : (l.length : Int) ≤ t
  · refine ev_neg (by omega) (ev_eq (laws_szStringS.ev_l0 l (by omega) hr l.length 0 _ (by omega) (by omega) (by omega)) ?_)
    rw [List.drop_zero]
    by_cases h2 : (totT l : Int) ≤ t - (l.length : Int)
    · rw [if_pos h2, if_pos (by omega)]
    · rw [if_neg h2, if_neg (by omega)]
  · refine ev_pos (by omega) (ev_now ?_)
    rw [if_neg (by omega)]

theorem laws_toStringS.ev_l0 (l : List ByteArray) (hl : l.length < 4611686018427387904) : ∀ (n i : Nat) (o : List ByteArray), i + n = l.length → o.length = l.length → o.take i = l.take i →
    Ev (fun k => laws_toStringS.l0 k l o (i : Int)) l
  | 0, i, o, hi, ho, ht => by
    refine Ev.step (fun k => laws_toStringS.l0.eq_2 _ _ _ k) ?_
    refine ev_neg (by omega) (ev_now ?_)
    rw [List.take_of_length_le (by omega), List.take_of_length_le (by omega)] at ht
    exact ht
  | n + 1, i, o, hi, ho, ht => by
    refine Ev.step (fun k => laws_toStringS.l0.eq_2 _ _ _ k) ?_
    refine ev_pos (by omega) (ev_pos (by omega) (ev_pos (by omega) ?_))
    rw [inc (by omega), Int.toNat_natCast, rdOf_nat]
    refine laws_toStringS.ev_l0 l hl n (i + 1) _ (by omega) (by simpa using ho) ?_
    rw [take_set_T _ _ _ (by omega), ht, List.take_succ_eq_append_getElem (by omega), txt_get (by omega)]
theorem laws_toStringS.ev (l : List ByteArray) (hl : l.length ≤ 17592186044416) : Ev (fun k => laws_toStringS.f k l) l := by
  unfold laws_toStringS.f
  refine ev_pos (by omega) (ev_pos (by omega) ?_)
  exact laws_toStringS.ev_l0 l (by omega) l.length 0 _ (by omega) (by simp) rfl

theorem laws_eqStringS.ev_l0 (l : List ByteArray) (hl : l.length < 4611686018427387904) : ∀ (n i : Nat), i + n = l.length → Ev (fun k => laws_eqStringS.l0 k l l (i : Int)) true
  | 0, i, hi => by
    refine Ev.step (fun k => laws_eqStringS.l0.eq_2 _ _ _ k) ?_
    exact ev_neg (by omega) (ev_now rfl)
  | n + 1, i, hi => by
    refine Ev.step (fun k => laws_eqStringS.l0.eq_2 _ _ _ k) ?_
    refine ev_pos (by omega) (ev_pos (by omega) (ev_pos (by omega) (ev_pos rfl ?_)))
    rw [inc (by omega)]
    exact laws_eqStringS.ev_l0 l hl n (i + 1) (by omega)
theorem laws_eqStringS.ev (l : List ByteArray) (hl : l.length ≤ 281474976710656) : Ev (fun k => laws_eqStringS.f k l l) true := by
  unfold laws_eqStringS.f
  exact ev_pos rfl (laws_eqStringS.ev_l0 l (by omega) l.length 0 (by omega))

theorem laws_markText.ev_l0 : ∀ (f x : Nat) (s : List Int), x < 10 ^ f → x < 4611686018427387904 → s.length + f ≤ 1000 → Ev (fun k => laws_markText.l0 k (x : Int) (strOfNums s)) (strOfNums (mtl f x s))
  | 0, x, s, h, h2, hs => by
    have e : x = 0 := by omega
    subst e
    refine Ev.step (fun k => laws_markText.l0.eq_2 _ _ k) ?_
    refine ev_neg (by omega) (ev_pos (by rw [strOfNums_size]; omega) (ev_now ?_))
    exact str_append [109] s
  | f + 1, x, s, h, h2, hs => by
    unfold mtl
    by_cases e : x = 0
    · rw [if_pos e]
      subst e
      refine Ev.step (fun k => laws_markText.l0.eq_2 _ _ k) ?_
      refine ev_neg (by omega) (ev_pos (by rw [strOfNums_size]; omega) (ev_now ?_))
      exact str_append [109] s
    · rw [if_neg e]
      refine Ev.step (fun k => laws_markText.l0.eq_2 _ _ k) ?_
      refine ev_pos (by omega) ?_
      simp only [Option.bind_some]
      have e1 : Int.tmod (x : Int) 10 = ((x % 10 : Nat) : Int) := by rw [Int.tmod_eq_emod_of_nonneg (by omega)]; omega
      have e2 : Int.tdiv (x : Int) 10 = ((x / 10 : Nat) : Int) := by rw [Int.tdiv_eq_ediv_of_nonneg (by omega)]; omega
      have e3 : (wrap64 (48 + ((x % 10 : Nat) : Int))) % 256 = 48 + ((x % 10 : Nat) : Int) := by unfold wrap64; omega
      have e4 : wrap64 ((x / 10 : Nat) : Int) = ((x / 10 : Nat) : Int) := by unfold wrap64; omega
      rw [e1, e2, e3, e4]
      refine ev_pos (by rw [strOfNums_size, strOfNums_size, List.length_singleton]; omega) ?_
      rw [str_append]
      exact laws_markText.ev_l0 f (x / 10) _ (by rw [Nat.pow_succ] at h; omega) (by omega) (by simp only [List.singleton_append, List.length_cons]; omega)
theorem laws_markText.ev (a : Int) (h : a < 4611686018427387904) : Ev (fun k => laws_markText.f k a) (mtx a) := by
  unfold laws_markText.f mtx
  by_cases c : a ≤ 0
  · rw [if_pos c]; exact ev_pos c (ev_now rfl)
  · rw [if_neg c]
    refine ev_neg c ?_
    obtain ⟨x, rfl⟩ := Int.eq_ofNat_of_zero_le (show 0 ≤ a by omega)
    rw [Int.toNat_natCast]
    exact laws_markText.ev_l0 20 x [] (by omega) (by omega) (by simp)

theorem laws_markStringS.ev_l0 (a : Int) (m : Nat) (ha : 0 ≤ a) (hm : a + m < 4611686018427387904) : ∀ (n i : Nat) (o : List ByteArray), i + n = m → o.length = m → o.take i = (markTS a m).take i →
    Ev (fun k => laws_markStringS.l0 k o (a + (i : Nat)) (i : Int)) (a + (m : Nat), markTS a m)
  | 0, i, o, hi, ho, ht => by
    refine Ev.step (fun k => laws_markStringS.l0.eq_2 _ _ _ k) ?_
    refine ev_neg (by omega) (ev_now ?_)
    have hb := markTS_length a m
    rw [List.take_of_length_le (by omega), List.take_of_length_le (by omega)] at ht
    subst ht
    have : i = m := by omega
    rw [this]
  | n + 1, i, o, hi, ho, ht => by
    refine Ev.step (fun k => laws_markStringS.l0.eq_2 _ _ _ k) ?_
    refine ev_pos (by omega) (ev_bind (laws_markText.ev _ (by omega)) (ev_pos (by omega) ?_))
    have e : wrap64 (a + (i : Nat) + 1) = a + ((i + 1 : Nat) : Int) := by unfold wrap64; omega
    rw [e, inc (by omega), Int.toNat_natCast]
    refine laws_markStringS.ev_l0 a m ha hm n (i + 1) _ (by omega) (by simpa using ho) ?_
    have hb := markTS_length a m
    rw [take_set_T _ _ _ (by omega), ht, List.take_succ_eq_append_getElem (by omega)]
    simp [markTS]
theorem laws_markStringS.ev (l : List ByteArray) (a : Int) (ha : 0 ≤ a) (hm : a + l.length < 4611686018427387904) : Ev (fun k => laws_markStringS.f k l a) (a + (l.length : Nat), markTS a l.length) := by
  unfold laws_markStringS.f
  have := laws_markStringS.ev_l0 a l.length ha hm l.length 0 l (by omega) rfl rfl
  simpa using this

theorem laws_eqShard.ev (a : Int) (s : ByteArray) : laws_eqShard.f a s a s = some true := by
  unfold laws_eqShard.f
  rw [if_pos rfl, if_pos rfl]

theorem laws_eqShardS.ev_l0 (l : List (S125)) (hl : l.length < 4611686018427387904) : ∀ (n i : Nat), i + n = l.length → Ev (fun k => laws_eqShardS.l0 k l l (i : Int)) true
  | 0, i, hi => by
    refine Ev.step (fun k => laws_eqShardS.l0.eq_2 _ _ _ k) ?_
    exact ev_neg (by omega) (ev_now rfl)
  | n + 1, i, hi => by
    refine Ev.step (fun k => laws_eqShardS.l0.eq_2 _ _ _ k) ?_
    simp only [laws_eqShard.ev, Option.bind_some]
    refine ev_pos (by omega) (ev_pos (by omega) (ev_pos (by omega) (ev_pos (by trivial) ?_)))
    rw [inc (by omega)]
    exact laws_eqShardS.ev_l0 l hl n (i + 1) (by omega)
theorem laws_eqShardS.ev (l : List (S125)) (hl : l.length ≤ 281474976710656) : Ev (fun k => laws_eqShardS.f k l l) true := by
  unfold laws_eqShardS.f
  exact ev_pos rfl (laws_eqShardS.ev_l0 l (by omega) l.length 0 (by omega))

def markSd (a : Int) (n : Nat) : List (S125) := (List.range n).map fun i => ⟨a + 2 * (i : Nat), mtx (a + 2 * (i : Nat) + 1)⟩
theorem markSd_length (a : Int) (n : Nat) : (markSd a n).length = n := by simp [markSd]
theorem rd_sd (l : List (S125)) (i : Nat) (h : i < l.length) : rd_T125 l (i : Int) = l[i] := by unfold rd_T125; simp [List.getD, h]
theorem laws_markShardS.ev_l0 (a : Int) (m : Nat) (ha : 0 ≤ a) (hm : a + 2 * m < 4611686018427387904) : ∀ (n i : Nat) (o : List (S125)), i + n = m → o.length = m → o.take i = (markSd a m).take i →
    Ev (fun k => laws_markShardS.l0 k o (a + 2 * (i : Nat)) (i : Int)) (a + 2 * (m : Nat), markSd a m)
  | 0, i, o, hi, ho, ht => by
    refine Ev.step (fun k => laws_markShardS.l0.eq_2 _ _ _ k) ?_
    refine ev_neg (by omega) (ev_now ?_)
    have hb := markSd_length a m
    rw [List.take_of_length_le (by omega), List.take_of_length_le (by omega)] at ht
    subst ht
    have : i = m := by omega
    rw [this]
  | n + 1, i, o, hi, ho, ht => by
    have e : wrap64 (a + 2 * (i : Nat) + 1) = a + 2 * (i : Nat) + 1 := by unfold wrap64; omega
    have e2 : wrap64 (a + 2 * (i : Nat) + 1 + 1) = a + 2 * ((i + 1 : Nat) : Int) := by unfold wrap64; omega
    refine Ev.step (fun k => laws_markShardS.l0.eq_2 _ _ _ k) ?_
    rw [e, e2]
    refine ev_pos (by omega) (ev_pos (by omega) ?_)
    simp only [Option.bind_some]
    refine ev_bind (laws_markText.ev _ (by omega)) ?_
    rw [inc (by omega), Int.toNat_natCast]
    refine laws_markShardS.ev_l0 a m ha hm n (i + 1) _ (by omega) (by simpa using ho) ?_
    have hb := markSd_length a m
    rw [List.take_succ_eq_append_getElem (by simp; omega), List.take_succ_eq_append_getElem (by omega), ← ht]
    simp [markSd, rd_T125, List.take_set_of_le, List.getD, show i < o.length by omega]
theorem laws_markShardS.ev (l : List (S125)) (a : Int) (ha : 0 ≤ a) (hm : a + 2 * l.length < 4611686018427387904) : Ev (fun k => laws_markShardS.f k l a) (a + 2 * (l.length : Nat), markSd a l.length) := by
  unfold laws_markShardS.f
  have := laws_markShardS.ev_l0 a l.length ha hm l.length 0 l (by omega) rfl rfl
  simpa using this

theorem laws_heldShardS.ev_l0 (a : Int) (m : Nat) (ha : 0 ≤ a) (hm : a + 2 * m < 4611686018427387904) : ∀ (n i : Nat), i + n = m →
    Ev (fun k => laws_heldShardS.l0 k (markSd a m) (a + 2 * (i : Nat)) (i : Int)) (a + 2 * (m : Nat))
  | 0, i, hi => by
    have hb := markSd_length a m
    refine Ev.step (fun k => laws_heldShardS.l0.eq_2 _ _ _ k) ?_
    refine ev_neg (by omega) (ev_now ?_)
    have : i = m := by omega
    rw [this]
  | n + 1, i, hi => by
    have hb := markSd_length a m
    refine Ev.step (fun k => laws_heldShardS.l0.eq_2 _ _ _ k) ?_
    have e : wrap64 (a + 2 * (i : Nat) + 1) = a + 2 * (i : Nat) + 1 := by unfold wrap64; omega
    have e2 : wrap64 (a + 2 * (i : Nat) + 1 + 1) = a + 2 * ((i + 1 : Nat) : Int) := by unfold wrap64; omega
    rw [e, e2, rd_sd _ _ (by omega), inc (by omega)]
    refine ev_pos (by omega) (ev_pos (by omega) (ev_pos (by simp [markSd]) (ev_bind (laws_markText.ev _ (by omega)) (ev_pos (by simp [markSd]) ?_))))
    exact laws_heldShardS.ev_l0 a m ha hm n (i + 1) (by omega)
theorem laws_heldShardS.ev (a : Int) (m : Nat) (ha : 0 ≤ a) (hm : a + 2 * m < 4611686018427387904) : Ev (fun k => laws_heldShardS.f k (markSd a m) a) (a + 2 * (m : Nat)) := by
  unfold laws_heldShardS.f
  have := laws_heldShardS.ev_l0 a m ha hm m 0 (by omega)
  simpa using this

theorem spec_l1Times.ev_l0 : ∀ (n o x y : Nat), y < 2 ^ n → n ≤ 8 → o < 256 → x < 256 →
    Ev (fun k => spec_l1Times.l0 k (o : Int) (x : Int) (y : Int)) ((T n o x y : Nat) : Int)
  | 0, o, x, y, hy, _, ho, hx => by
    refine Ev.step (fun k => spec_l1Times.l0.eq_2 _ _ _ k) ?_
    have : y = 0 := by simpa using hy
    subst this
    refine ev_neg (by decide) (ev_now ?_)
    simp only [T]
    omega
  | n + 1, o, x, y, hy, hn, ho, hx => by
    have hy8 : y < 256 := Nat.lt_of_lt_of_le hy (Nat.pow_le_pow_right (n := 2) (by decide) hn)
    by_cases h0 : y = 0
    · subst h0
      refine Ev.step (fun k => spec_l1Times.l0.eq_2 _ _ _ k) ?_
      refine ev_neg (by decide) (ev_now ?_)
      rw [T_zero]
      omega
    refine Ev.step (fun k => spec_l1Times.l0.eq_2 _ _ _ k) ?_
    refine ev_pos (by omega) ?_
    have e2 : wrap64 ((x : Int) * 2) = ((2 * x : Nat) : Int) := by rw [wrap_id (by omega) (by omega)]; omega
    have e3 : ((y : Int) / 2) = ((y / 2 : Nat) : Int) := by omega
    have e4 : Go.bits .xor .i64 (o : Int) (x : Int) = ((o ^^^ x : Nat) : Int) := xor_i64 (by omega) (by omega)
    have e5 : Go.bits .xor .i64 ((2 * x : Nat) : Int) 283 = ((2 * x ^^^ 283 : Nat) : Int) := xor_i64 (m := 2 * x) (n := 283) (by omega) (by omega)
    rw [and1_i64 (by omega), e2, e3, e4, e5]
    have hT : T (n + 1) o x y = T n (if y % 2 = 1 then o ^^^ x else o) (xt x) (y / 2) := by rw [T]
    rw [hT]
    have hxt := xt_lt hx
    have hox := xor_lt ho hx
    have hh : y / 2 < 2 ^ n := by rw [Nat.pow_succ] at hy; omega
    by_cases h1 : y % 2 = 1
    · rw [if_pos h1]
      refine ev_pos (by omega) ?_
      by_cases h2 : 2 * x > 255
      · refine ev_pos (by omega) ?_
        have : xt x = 2 * x ^^^ 283 := by unfold xt; rw [if_pos h2]
        rw [this] at hxt ⊢
        exact spec_l1Times.ev_l0 n _ _ _ hh (by omega) hox hxt
      · refine ev_neg (by omega) ?_
        have : xt x = 2 * x := by unfold xt; rw [if_neg h2]
        rw [this] at hxt ⊢
        exact spec_l1Times.ev_l0 n _ _ _ hh (by omega) hox hxt
    · rw [if_neg h1]
      refine ev_neg (by omega) ?_
      by_cases h2 : 2 * x > 255
      · refine ev_pos (by omega) ?_
        have : xt x = 2 * x ^^^ 283 := by unfold xt; rw [if_pos h2]
        rw [this] at hxt ⊢
        exact spec_l1Times.ev_l0 n _ _ _ hh (by omega) ho hxt
      · refine ev_neg (by omega) ?_
        have : xt x = 2 * x := by unfold xt; rw [if_neg h2]
        rw [this] at hxt ⊢
        exact spec_l1Times.ev_l0 n _ _ _ hh (by omega) ho hxt
theorem spec_l1Times.ev {a b : Int} (ha : Byte a) (hb : Byte b) : Ev (fun k => spec_l1Times.f k a b) (mul a b) := by
  obtain ⟨m, hm, rfl⟩ := ha.nat
  obtain ⟨n, hn, rfl⟩ := hb.nat
  unfold spec_l1Times.f
  rw [wrap_id (i := (m : Int)) (by omega) (by omega), wrap_id (i := (n : Int)) (by omega) (by omega)]
  have h := spec_l1Times.ev_l0 8 0 m n hn (Nat.le_refl _) (by decide) hm
  exact ev_eq h (by unfold Gf.mul gm; simp)

theorem spec_l3Rows.ev_l2 (D : List ByteArray) (b s v : List Int) (hb : Bytes b) (f : Int) (hf : Byte f) (a : Nat) (ha : a < D.length) (hs : (txt D a).size = b.length) (hbl : b.length < 4611686018427387904) (hv : v = addV b (scale f (bytesOf (txt D a)))) (out : List ByteArray) (R : List (List Int)) (x14 x15 : Int) (x24 : List Int) (x25 x26 : Int) {Z : List ByteArray}
    (K : Ev (fun k => spec_l3Rows.l1 k D out v R x14 x15 x24 x25 (wrap64 (x26 + 1))) Z) : ∀ (d j : Nat), j + d = b.length →
    Ev (fun k => spec_l3Rows.l2 k D out (v.take j ++ b.drop j) (a : Int) f R x14 x15 x24 x25 x26 (b.length : Int) (j : Int)) Z
  | 0, j, hj => by
    have hvl : v.length = b.length := by rw [hv, addV_length, scale_length, bytesOf_length]; omega
    refine Ev.step (fun k => spec_l3Rows.l2.eq_2 _ _ _ _ _ _ _ _ _ _ _ _ _ k) ?_
    refine ev_neg (by omega) ?_
    rw [List.take_of_length_le (by omega), List.drop_of_length_le (by omega), List.append_nil]
    exact K
  | d + 1, j, hj => by
    have hvl : v.length = b.length := by rw [hv, addV_length, scale_length, bytesOf_length]; omega
    have hh := half_length hvl (show j ≤ b.length by omega)
    refine Ev.step (fun k => spec_l3Rows.l2.eq_2 _ _ _ _ _ _ _ _ _ _ _ _ _ k) ?_
    rw [half_get hvl (by omega)]
    simp only [rdOf_nat]
    refine ev_pos (by omega) (ev_pos (by omega) (ev_pos (by omega) (ev_pos (by omega) (ev_pos (by omega) (ev_pos (by omega) ?_)))))
    refine ev_bind (spec_l1Times.ev hf (bt_byte _ _)) ?_
    rw [xor_u8 (bytes_getD hb j) (Byte.mul hf _), inc (by omega), Int.toNat_natCast, bt_getD]
    have e : gx (b.getD j 0) (mul f ((bytesOf (txt D a)).getD j 0)) = v.getD j 0 := by
      rw [hv, addV_getD (by rw [scale_length, bytesOf_length]; omega) (by omega), scale_getD (by rw [bytesOf_length]; omega)]
    rw [e, half_set hvl (by omega)]
    exact spec_l3Rows.ev_l2 D b s v hb f hf a ha hs hbl hv out R x14 x15 x24 x25 x26 K d (j + 1) (by omega)
theorem spec_l3Rows.ev_l1 (D : List ByteArray) (hD : ∀ j, j < D.length → (txt D j).size = (txt D 0).size) (hs : (txt D 0).size < 140737488355328) (hl : D.length < 4611686018427387904) (r : List Int) (hr : Bytes r) (hrl : r.length = D.length) (out : List ByteArray) (ho : out.length < 8796093022208)
    (R : List (List Int)) (x14 x15 : Int) {Z : List ByteArray} (K : Ev (fun k => spec_l3Rows.l0 k D (out ++ [strOfNums (mixTo r D (txt D 0).size D.length)]) R x14 (wrap64 (x15 + 1))) Z) : ∀ (d j : Nat), j + d = D.length →
    Ev (fun k => spec_l3Rows.l1 k D out (mixTo r D (txt D 0).size j) R x14 x15 r (r.length : Int) (j : Int)) Z
  | 0, j, hj => by
    have e : j = D.length := by omega
    subst e
    refine Ev.step (fun k => spec_l3Rows.l1.eq_2 _ _ _ _ _ _ _ _ _ k) ?_
    exact ev_neg (by omega) (ev_pos ho K)
  | d + 1, j, hj => by
    obtain ⟨h1, h2⟩ := mixTo_ok (n := (txt D 0).size) hr hD j (by omega)
    have h3 := hD j (by omega)
    have ih := spec_l3Rows.ev_l1 D hD hs hl r hr hrl out ho R x14 x15 K d (j + 1) (by omega)
    refine Ev.step (fun k => spec_l3Rows.l1.eq_2 _ _ _ _ _ _ _ _ _ k) ?_
    refine ev_pos (by omega) (ev_pos (by omega) (ev_pos (by omega) ?_))
    have := spec_l3Rows.ev_l2 D (mixTo r D (txt D 0).size j) [] (mixTo r D (txt D 0).size (j + 1)) h1 (rd r (j : Int)) (bytes_rd hr (by omega)) j (by omega) (by omega) (by omega) (by rw [rd_nat]; rfl) out R x14 x15 r (r.length : Int) (j : Int) (by rw [inc (by omega)]; exact ih) (mixTo r D (txt D 0).size j).length 0 (by omega)
    simpa using this
theorem spec_l3Rows.ev_l0 (D : List ByteArray) (hp : 0 < D.length) (hD : ∀ j, j < D.length → (txt D j).size = (txt D 0).size) (hs : (txt D 0).size < 140737488355328) (hl : D.length < 4611686018427387904) (R : List (List Int)) (hR : ∀ r ∈ R, Bytes r ∧ r.length = D.length) (hRl : R.length < 8796093022208) : ∀ (d i : Nat), i + d = R.length →
    Ev (fun k => spec_l3Rows.l0 k D ((mixT R D).take i) R (R.length : Int) (i : Int)) (mixT R D)
  | 0, i, hi => by
    have hz := mixT_length R D
    refine Ev.step (fun k => spec_l3Rows.l0.eq_2 _ _ _ _ _ k) ?_
    refine ev_neg (by omega) (ev_now ?_)
    rw [List.take_of_length_le (by omega)]
  | d + 1, i, hi => by
    have hz := mixT_length R D
    have hlt : i < R.length := by omega
    have hm := hR _ (List.getElem_mem hlt)
    refine Ev.step (fun k => spec_l3Rows.l0.eq_2 _ _ _ _ _ k) ?_
    simp only [rdOf_zero, Int.toNat_natCast]
    rw [rdSS R i hlt]
    refine ev_pos (by omega) (ev_pos (by omega) (ev_pos (by omega) (ev_pos (by omega) (ev_pos (by omega) (ev_pos (by omega) ?_)))))
    refine spec_l3Rows.ev_l1 D hD hs hl R[i] hm.1 hm.2 _ (by rw [List.length_take]; omega) R _ _ ?_ D.length 0 (by omega)
    rw [inc (by omega)]
    have e : (mixT R D).take i ++ [strOfNums (mixTo R[i] D (txt D 0).size D.length)] = (mixT R D).take (i + 1) := by
      rw [List.take_succ_eq_append_getElem (by omega)]
      simp [mixT]
    rw [e]
    exact spec_l3Rows.ev_l0 D hp hD hs hl R hR hRl d (i + 1) (by omega)
theorem spec_l3Rows.ev {D : List ByteArray} (hp : 0 < D.length) (hD : ∀ j, j < D.length → (txt D j).size = (txt D 0).size) (hs : (txt D 0).size < 140737488355328) (hl : D.length < 4611686018427387904) {R : List (List Int)} (hR : ∀ r ∈ R, Bytes r ∧ r.length = D.length) (hRl : R.length < 8796093022208) : Ev (fun k => spec_l3Rows.f k R D) (mixT R D) := by
  unfold spec_l3Rows.f
  exact spec_l3Rows.ev_l0 D hp hD hs hl R hR hRl R.length 0 (by omega)

theorem spec_l1In.ev (a b c : Int) : spec_l1In.f a b c = some (decide (b ≤ a ∧ a ≤ c)) := by
  unfold spec_l1In.f
  by_cases h : a ≥ b
  · rw [if_pos h]; simp [h]
  · rw [if_neg h]; simp; omega

theorem spec_GoodLocal.ev (g e m : Int) : spec_GoodLocal.f g e m = some (decide (GoodLocal g e m)) := by
  unfold spec_GoodLocal.f
  simp only [spec_l1In.ev, Option.bind_some, decide_eq_true_eq]
  by_cases h1 : 1 ≤ g ∧ g ≤ 4
  · by_cases h2 : 1 ≤ e ∧ e ≤ 4
    · have em := (small_mul ⟨h1, h2⟩).1
      rw [em]
      by_cases h3 : g * e ≤ 8 <;> simp [h1, h2, h3]
    · simp [h1, h2]
  · simp [h1]

theorem spec_l4Data.ev {g e m : Int} (h : GoodLocal g e m) : spec_l4Data.f g e m = some (g * e) := by
  unfold spec_l4Data.f
  rw [(small_mul h.1).1]

theorem spec_l2Blank.ev_l0 (n m : Nat) (hn : n ≤ 1048576) (hm : m ≤ 1048576) : ∀ (d i : Nat), i + d = n → Ev (fun k => spec_l2Blank.l0 k (n : Int) (m : Int) (i : Int) (blankM i m)) (blankM n m)
  | 0, i, hi => by
    obtain rfl : i = n := by omega
    refine Ev.step (fun k => spec_l2Blank.l0.eq_2 _ _ _ _ k) ?_
    exact ev_neg (by omega) (ev_now rfl)
  | d + 1, i, hi => by
    have ih := spec_l2Blank.ev_l0 n m hn hm d (i + 1) (by omega)
    refine Ev.step (fun k => spec_l2Blank.l0.eq_2 _ _ _ _ k) ?_
    refine ev_pos (by omega) (ev_pos (by omega) (ev_pos (by omega) (ev_pos (by simp [blankM]; omega) ?_)))
    rw [inc (by omega), Int.toNat_natCast]
    have e : blankM i m ++ [List.replicate m 0] = blankM (i + 1) m := by
      unfold blankM; rw [List.replicate_succ']
    rw [e]
    exact ih
theorem spec_l2Blank.ev (n m : Nat) (hn : n ≤ 1048576) (hm : m ≤ 1048576) : Ev (fun k => spec_l2Blank.f k (n : Int) (m : Int)) (blankM n m) := by
  unfold spec_l2Blank.f
  exact spec_l2Blank.ev_l0 n m hn hm n 0 (by omega)

def idPart (n i : Nat) : List (List Int) := (List.range n).map fun j => if j < i then (List.replicate n 0).set j 1 else List.replicate n 0
theorem idPart_length (n i : Nat) : (idPart n i).length = n := by simp [idPart]
theorem idPart_zero (n : Nat) : idPart n 0 = blankM n n := by
  apply List.ext_getElem
  · simp [idPart, blankM]
  · intro j h1 h2; simp [idPart, blankM]
theorem idPart_all (n : Nat) : idPart n n = idM n := by
  apply List.ext_getElem
  · simp [idPart, idM]
  · intro j h1 h2
    have : j < n := by simpa [idPart] using h1
    simp [idPart, idM, this]
theorem idPart_succ (n i : Nat) (hi : i < n) : (idPart n i).set i ((List.replicate n 0).set i 1) = idPart n (i + 1) := by
  apply List.ext_getElem
  · simp [idPart]
  · intro j h1 h2
    rw [List.getElem_set]
    by_cases e : i = j
    · subst e
      simp [idPart]
    · rw [if_neg e]
      simp only [idPart, List.getElem_map, List.getElem_range]
      by_cases h : j < i
      · rw [if_pos h, if_pos (by omega)]
      · rw [if_neg h, if_neg (by omega)]
theorem spec_l2Identity.ev_l0 (n : Nat) (hn : n ≤ 1048576) : ∀ (d i : Nat), i + d = n → Ev (fun k => spec_l2Identity.l0 k (n : Int) (i : Int) (idPart n i)) (idM n)
  | 0, i, hi => by
    obtain rfl : i = n := by omega
    refine Ev.step (fun k => spec_l2Identity.l0.eq_2 _ _ _ k) ?_
    exact ev_neg (by omega) (ev_now (idPart_all i))
  | d + 1, i, hi => by
    have hl := idPart_length n i
    have hg : rd_L1 (idPart n i) (i : Int) = List.replicate n 0 := by
      rw [rdSS _ i (by omega)]
      simp [idPart]
    have ih := spec_l2Identity.ev_l0 n hn d (i + 1) (by omega)
    refine Ev.step (fun k => spec_l2Identity.l0.eq_2 _ _ _ k) ?_
    rw [hg]
    refine ev_pos (by omega) (ev_pos (by omega) (ev_pos (by omega) (ev_pos (by simp; omega) ?_)))
    rw [inc (by omega), Int.toNat_natCast, idPart_succ n i (by omega)]
    exact ih
theorem spec_l2Identity.ev (n : Nat) (hn : n ≤ 1048576) : Ev (fun k => spec_l2Identity.f k (n : Int)) (idM n) := by
  unfold spec_l2Identity.f
  refine ev_bind (spec_l2Blank.ev n n hn hn) ?_
  have e : ((blankM n n).length : Int) = (n : Int) := by simp [blankM]
  rw [e, ← idPart_zero]
  exact spec_l2Identity.ev_l0 n hn n 0 (by omega)

theorem spec_l1Power.ev_l0 (a : Int) (ha : Byte a) : ∀ (n m : Nat), n < 4611686018427387904 → Ev (fun k => spec_l1Power.l0 k a (n : Int) (pow a m)) (pow a (m + n))
  | 0, m, _ => by
    refine Ev.step (fun k => spec_l1Power.l0.eq_2 _ _ _ k) ?_
    exact ev_neg (by omega) (ev_now rfl)
  | n + 1, m, hn => by
    refine Ev.step (fun k => spec_l1Power.l0.eq_2 _ _ _ k) ?_
    refine ev_pos (by omega) ?_
    refine ev_bind (spec_l1Times.ev (Byte.pow ha m) ha) ?_
    have e : wrap64 (((n + 1 : Nat) : Int) - 1) = (n : Int) := by unfold wrap64; omega
    rw [e, ← pow_succ]
    refine ev_eq (spec_l1Power.ev_l0 a ha n (m + 1) (by omega)) ?_
    rw [Nat.add_right_comm, Nat.add_assoc]
theorem spec_l1Power.ev {a : Int} (ha : Byte a) (n : Nat) (hn : n < 4611686018427387904) : Ev (fun k => spec_l1Power.f k a (n : Int)) (pow a n) := by
  unfold spec_l1Power.f
  have := spec_l1Power.ev_l0 a ha n 0 hn
  rw [pow_zero, Nat.zero_add] at this
  exact this

theorem spec_l1Inverse.ev {a : Int} (ha : Byte a) : Ev (fun k => spec_l1Inverse.f k a) (inv a) := by
  unfold spec_l1Inverse.f
  by_cases h : a = 0
  · subst h
    exact ev_pos rfl (ev_now inv_zero.symm)
  · exact ev_neg h (ev_bind (spec_l1Power.ev ha 254 (by decide)) (ev_now (inv_pow a).symm))

theorem spec_l2Cauchy.ev_l1 (n m : Nat) (hn : n ≤ 1048576) (hm : m ≤ 1048576) (i : Nat) (hi : i < n) {R : List (List Int)}
    (K : Ev (fun k => spec_l2Cauchy.l0 k (m : Int) (n : Int) (wrap64 ((i : Int) + 1)) (filPart n m (cauAt m) (i + 1) 0)) R) : ∀ (d j : Nat), j + d = m →
    Ev (fun k => spec_l2Cauchy.l1 k (m : Int) (i : Int) (n : Int) (i : Int) (m : Int) (j : Int) (filPart n m (cauAt m) i j)) R
  | 0, j, hj => by
    refine Ev.step (fun k => spec_l2Cauchy.l1.eq_2 _ _ _ _ _ _ _ k) ?_
    refine ev_neg (by omega) ?_
    rw [show j = m by omega, filPart_next]
    exact K
  | d + 1, j, hj => by
    have hl := filPart_length n m (cauAt m) i j
    have hr := filPart_row (f := cauAt m) (m := m) (i := i) (j := j) hi
    refine Ev.step (fun k => spec_l2Cauchy.l1.eq_2 _ _ _ _ _ _ _ k) ?_
    simp only [rdSS0, Int.toNat_natCast]
    refine ev_pos (by omega) (ev_pos (by omega) (ev_pos (by omega) ?_))
    refine ev_bind (spec_l1Inverse.ev (mod_byte _)) ?_
    refine ev_pos (by omega) (ev_pos (by omega) ?_)
    rw [inc (by omega), show inv ((Go.bits .xor .i64 (wrap64 ((m : Int) + (i : Int))) (j : Int)) % 256) = cauAt m i j from rfl, filPart_set (cauAt m) hi]
    exact spec_l2Cauchy.ev_l1 n m hn hm i hi K d (j + 1) (by omega)
theorem spec_l2Cauchy.ev_l0 (n m : Nat) (hn : n ≤ 1048576) (hm : m ≤ 1048576) : ∀ (d i : Nat), i + d = n → Ev (fun k => spec_l2Cauchy.l0 k (m : Int) (n : Int) (i : Int) (filPart n m (cauAt m) i 0)) (tab n m (cauAt m))
  | 0, i, hi => by
    refine Ev.step (fun k => spec_l2Cauchy.l0.eq_2 _ _ _ _ k) ?_
    refine ev_neg (by omega) (ev_now ?_)
    rw [show i = n by omega, filPart_all]
  | d + 1, i, hi => by
    have hl := filPart_length n m (cauAt m) i 0
    have hr := filPart_row (f := cauAt m) (m := m) (i := i) (j := 0) (show i < n by omega)
    have ih := spec_l2Cauchy.ev_l0 n m hn hm d (i + 1) (by omega)
    refine Ev.step (fun k => spec_l2Cauchy.l0.eq_2 _ _ _ _ k) ?_
    simp only [rdSS0, Int.toNat_natCast]
    refine ev_pos (by omega) (ev_pos (by omega) (ev_pos (by omega) ?_))
    rw [hr]
    exact spec_l2Cauchy.ev_l1 n m hn hm i (by omega) (by rw [inc (by omega)]; exact ih) m 0 (by omega)
theorem spec_l2Cauchy.ev (n m : Nat) (hn : n ≤ 1048576) (hm : m ≤ 1048576) : Ev (fun k => spec_l2Cauchy.f k (n : Int) (m : Int)) (tab n m (cauAt m)) := by
  unfold spec_l2Cauchy.f
  refine ev_bind (spec_l2Blank.ev n m (by omega) (by omega)) ?_
  have e : ((blankM n m).length : Int) = (n : Int) := by simp [blankM]
  rw [e, filPart_zero n m (cauAt m)]
  exact spec_l2Cauchy.ev_l0 n m hn hm n 0 (by omega)

theorem spec_l4Matrix.ev_l1 (g e m n i : Nat) (he : 1 ≤ e ∧ e ≤ 4) (hg : g ≤ 4) (hi : i < g) (hn : n = g * e) (hn8 : n ≤ 8) (R : List (List Int)) (hR : R.length ≤ 100) {Z : List (List Int)}
    (K : Ev (fun k => spec_l4Matrix.l0 k (n : Int) (wrap64 ((i : Int) + 1)) (g : Int) (e : Int) (m : Int) (R ++ [(List.range n).map (grpAt e i)])) Z) : ∀ (d t : Nat), t + d = e →
    Ev (fun k => spec_l4Matrix.l1 k (n : Int) (i : Int) (grpPart n e i t) (t : Int) (g : Int) (e : Int) (m : Int) R) Z
  | 0, t, ht => by
    refine Ev.step (fun k => spec_l4Matrix.l1.eq_2 _ _ _ _ _ _ _ _ k) ?_
    refine ev_neg (by omega) (ev_pos (by omega) ?_)
    rw [show t = e by omega, grpPart_all n e i (by omega)]
    exact K
  | d + 1, t, ht => by
    have hl := grpPart_length n e i t
    have hie : i * e + e ≤ n := by rw [hn, ← Nat.succ_mul]; exact Nat.mul_le_mul_right _ hi
    have e1 : (i : Int) * (e : Int) = ((i * e : Nat) : Int) := by rw [Int.natCast_mul]
    refine Ev.step (fun k => spec_l4Matrix.l1.eq_2 _ _ _ _ _ _ _ _ k) ?_
    rw [e1, wrap_id (i := ((i * e : Nat) : Int)) (by omega) (by omega), show ((i * e : Nat) : Int) + (t : Int) = ((i * e + t : Nat) : Int) from (Int.natCast_add _ _).symm, wrap_id (i := ((i * e + t : Nat) : Int)) (by omega) (by omega)]
    clear e1
    refine ev_pos (by omega) (ev_pos (by omega) (ev_pos (by omega) ?_))
    rw [inc (by omega), Int.toNat_natCast, grpPart_set]
    exact spec_l4Matrix.ev_l1 g e m n i he hg hi hn hn8 R hR K d (t + 1) (by omega)
theorem spec_l4Matrix.ev_l0 (g e m n : Nat) (he : 1 ≤ e ∧ e ≤ 4) (hg : g ≤ 4) (hm : m ≤ 4) (hn : n = g * e) (hn8 : n ≤ 8) : ∀ (d i : Nat), i + d = g →
    Ev (fun k => spec_l4Matrix.l0 k (n : Int) (i : Int) (g : Int) (e : Int) (m : Int) (idM n ++ tab i n (grpAt e))) (localM g e m)
  | 0, i, hi => by
    refine Ev.step (fun k => spec_l4Matrix.l0.eq_2 _ _ _ _ _ _ k) ?_
    refine ev_neg (by omega) (ev_bind (spec_l2Cauchy.ev m n (by omega) (by omega)) (ev_pos (by rw [List.length_append, idM_length, tab_length, tab_length]; omega) (ev_now ?_)))
    rw [show i = g by omega, hn]; rfl
  | d + 1, i, hi => by
    have ih := spec_l4Matrix.ev_l0 g e m n he hg hm hn hn8 d (i + 1) (by omega)
    refine Ev.step (fun k => spec_l4Matrix.l0.eq_2 _ _ _ _ _ _ k) ?_
    refine ev_pos (by omega) (ev_pos (by omega) (ev_pos (by omega) ?_))
    rw [Int.toNat_natCast, grpPart_zero n e i]
    refine spec_l4Matrix.ev_l1 g e m n i he hg (by omega) hn hn8 _ (by rw [List.length_append, idM_length, tab_length]; omega) ?_ e 0 (by omega)
    rw [inc (by omega), List.append_assoc]
    have e1 : tab i n (grpAt e) ++ [(List.range n).map (grpAt e i)] = tab (i + 1) n (grpAt e) := by
      unfold tab
      rw [List.range_succ, List.map_append]; rfl
    rw [e1]
    exact ih
theorem spec_l4Matrix.ev {g e m : Nat} (h : GoodLocal (g : Int) (e : Int) (m : Int)) : Ev (fun k => spec_l4Matrix.f k (g : Int) (e : Int) (m : Int)) (localM g e m) := by
  unfold spec_l4Matrix.f
  have hm := (small_mul h.1).1
  obtain ⟨⟨⟨h1, h2⟩, h3, h4⟩, h5, h6, h7⟩ := h
  have e1 : (g : Int) * (e : Int) = ((g * e : Nat) : Int) := by rw [Int.natCast_mul]
  rw [e1] at h5
  unfold spec_l4Data.f
  simp only [Option.bind_some]
  rw [hm, e1]
  refine ev_bind (spec_l2Identity.ev (g * e) (by omega)) ?_
  have h0 := spec_l4Matrix.ev_l0 g e m (g * e) (by omega) (by omega) (by omega) rfl (by omega) g 0 (by omega)
  have e2 : tab 0 (g * e) (grpAt e) = [] := rfl
  rw [e2, List.append_nil] at h0
  exact h0

theorem spec_l3Texts.ev_l0 (l : List ByteArray) (hl : l.length < 4611686018427387904) : ∀ (d i : Nat), i + d = l.length → Ev (fun k => spec_l3Texts.l0 k l l (l.length : Int) (i : Int)) (!((List.range d).any fun t => badT l (i + t)))
  | 0, i, hi => by
    refine Ev.step (fun k => spec_l3Texts.l0.eq_2 _ _ _ _ k) ?_
    exact ev_neg (by omega) (ev_now rfl)
  | d + 1, i, hi => by
    refine Ev.step (fun k => spec_l3Texts.l0.eq_2 _ _ _ _ k) ?_
    simp only [rdOf_nat, rdOf_zero]
    refine ev_pos (by omega) (ev_pos (by omega) (ev_pos (by omega) (ev_pos (by omega) ?_)))
    have ha : ((List.range (d + 1)).any fun t => badT l (i + t)) = (badT l i || (List.range d).any fun t => badT l (i + 1 + t)) := by
      rw [List.range_succ_eq_map, List.any_cons, List.any_map, Nat.add_zero]
      congr 2
      funext t
      simp only [Function.comp_apply]
      rw [show i + (t + 1) = i + 1 + t by omega]
    rw [ha]
    by_cases h1 : (txt l i).size = (txt l 0).size
    · refine ev_pos (by omega) ?_
      by_cases h2 : (txt l i).size > 40
      · refine ev_pos (by omega) (ev_now ?_)
        have : badT l i = true := by unfold badT; rw [decide_eq_true (by omega), Bool.true_or]
        rw [this]; rfl
      · refine ev_neg (by omega) ?_
        have : badT l i = false := by unfold badT; rw [decide_eq_false (by omega), h1]; simp
        rw [this, Bool.false_or, inc (by omega)]
        exact spec_l3Texts.ev_l0 l hl d (i + 1) (by omega)
    · refine ev_neg (by omega) (ev_now ?_)
      have : badT l i = true := by unfold badT; rw [bne_iff_ne.2 h1, Bool.or_true]
      rw [this]; rfl
theorem spec_l3Texts.ev (l : List ByteArray) (hl : l.length < 4611686018427387904) : Ev (fun k => spec_l3Texts.f k l) (textsOk l) := by
  unfold spec_l3Texts.f
  have := spec_l3Texts.ev_l0 l hl l.length 0 (by omega)
  rw [textsOk_bad]
  simpa using this

abbrev Sh := S125
def shardsL (T : List ByteArray) : List Sh := (List.range T.length).map fun i => ⟨(i : Nat), txt T i⟩
theorem shardsL_length (T : List ByteArray) : (shardsL T).length = T.length := by simp [shardsL]
theorem shardsL_succ (T : List ByteArray) (i : Nat) (h : i < T.length) : (shardsL T).take (i + 1) = (shardsL T).take i ++ [⟨(i : Nat), txt T i⟩] := by
  rw [List.take_succ_eq_append_getElem (by rw [shardsL_length]; exact h)]
  simp [shardsL]
theorem spec_EncodeLocal.ev_l0 (T : List ByteArray) (hT : T.length < 5864062014805) : ∀ (d i : Nat), i + d = T.length → Ev (fun k => spec_EncodeLocal.l0 k ((shardsL T).take i) T (T.length : Int) (i : Int)) (shardsL T, true)
  | 0, i, hi => by
    have hz := shardsL_length T
    refine Ev.step (fun k => spec_EncodeLocal.l0.eq_2 _ _ _ _ k) ?_
    refine ev_neg (by omega) (ev_now ?_)
    rw [List.take_of_length_le (by omega)]
  | d + 1, i, hi => by
    have hz := shardsL_length T
    refine Ev.step (fun k => spec_EncodeLocal.l0.eq_2 _ _ _ _ k) ?_
    refine ev_pos (by omega) (ev_pos (by omega) (ev_pos (by omega) (ev_pos (by rw [List.length_take]; omega) ?_)))
    rw [rdOf_nat, ← shardsL_succ T i (by omega), inc (by omega)]
    exact spec_EncodeLocal.ev_l0 T hT d (i + 1) (by omega)
def encLocal (g e m : Int) (l : List ByteArray) : List Sh × Bool := if GoodLocal g e m ∧ (l.length : Int) = g * e ∧ textsOk l = true then (shardsL (mixT (localM g.toNat e.toNat m.toNat) l), true) else ([], false)
theorem encLocal_len (g e m : Int) (l : List ByteArray) : (encLocal g e m l).1.length ≤ 20 := by
  unfold encLocal
  split
  · rename_i h
    obtain ⟨a, b, c, rfl, rfl, rfl, h1, h2, h3, h4, h5, h6, h7, _⟩ := GoodLocal_nat h.1
    show (shardsL _).length ≤ 20
    rw [shardsL_length, mixT_length, localM_length]; simp only [Int.toNat_natCast]; omega
  · simp
theorem spec_EncodeLocal.ev_yes {a b c : Nat} {l : List ByteArray} (h : GoodLocal (a : Int) (b : Int) (c : Int)) (hl : (l.length : Int) = (a : Int) * (b : Int)) (ht : textsOk l = true) : Ev (fun k => spec_EncodeLocal.j0 k l false (a : Int) (b : Int) (c : Int)) (shardsL (mixT (localM a b c) l), true) := by
  obtain ⟨⟨⟨h1, h2⟩, h3, h4⟩, h5, h6, h7⟩ := id h
  have e1 : (a : Int) * (b : Int) = ((a * b : Nat) : Int) := by rw [Int.natCast_mul]
  rw [e1] at hl h5
  have hp : 1 * 1 ≤ a * b := Nat.mul_le_mul (by omega) (by omega)
  have hs := textsOk_all ht
  have h0 := hs 0 (by omega)
  have hz := mixT_length (localM a b c) l
  rw [localM_length] at hz
  have hln : l.length = a * b := by omega
  refine Ev.step (fun k => spec_EncodeLocal.j0.eq_2 _ _ _ _ _ k) ?_
  refine ev_neg (by simp) (ev_bind (spec_l4Matrix.ev h) ?_)
  refine ev_bind (spec_l3Rows.ev (by omega) (fun j hj => (hs j hj).1) (by omega) (by omega) (by rw [hln]; exact localM_rows a b c) (by rw [localM_length]; omega)) ?_
  exact spec_EncodeLocal.ev_l0 (mixT (localM a b c) l) (by omega) (mixT (localM a b c) l).length 0 (by omega)
theorem spec_EncodeLocal.ev {l : List ByteArray} (hl : textsLe 1048576 l) (g e m : Int) : Ev (fun k => spec_EncodeLocal.f k g e m l) (encLocal g e m l) := by
  unfold spec_EncodeLocal.f encLocal
  simp only [spec_GoodLocal.ev, Option.bind_some, decide_eq_true_eq]
  have hno : ∀ c : Prop, [Decidable c] → ¬ c → Ev (fun k => spec_EncodeLocal.j0 k l true g e m) (if c then (shardsL (mixT (localM g.toNat e.toNat m.toNat) l), true) else ([], false)) := fun c _ hc => by
    refine Ev.step (fun k => spec_EncodeLocal.j0.eq_2 _ _ _ _ _ k) ?_
    exact ev_pos rfl (ev_now (if_neg hc).symm)
  by_cases h1 : GoodLocal g e m
  · refine ev_pos h1 ?_
    simp only [spec_l4Data.ev h1, Option.bind_some]
    by_cases h2 : (l.length : Int) = g * e
    · refine ev_pos h2 (ev_bind (spec_l3Texts.ev l (by have := hl.1; omega)) ?_)
      cases h3 : textsOk l with
      | true =>
        rw [if_pos ⟨h1, h2, rfl⟩]
        obtain ⟨a, b, c, rfl, rfl, rfl, _⟩ := GoodLocal_nat h1
        exact spec_EncodeLocal.ev_yes h1 h2 h3
      | false => exact hno _ (fun z => by cases z.2.2)
    · exact ev_neg h2 (hno _ (fun z => h2 z.2.1))
  · exact ev_neg h1 (hno _ (fun z => h1 z.1))

theorem impl_added.ev_l0 (v w : List Int) (hv : Bytes v) (hw : Bytes w) (hl : v.length = w.length) (hs : v.length < 140737488355328) : ∀ (n i : Nat) (o : List Int), i + n = v.length → o = (addV v w).take i →
    Ev (fun k => impl_added.l0 k w o v (v.length : Int) (i : Int)) (addV v w)
  | 0, i, o, hi, ho => by
    refine Ev.step (fun k => impl_added.l0.eq_2 _ _ _ _ _ k) ?_
    refine ev_neg (by omega) (ev_now ?_)
    subst ho
    rw [List.take_of_length_le (by rw [addV_length]; omega)]
  | n + 1, i, o, hi, ho => by
    have hz := addV_length v w
    have hlen : o.length = i := by rw [ho, List.length_take, hz]; omega
    refine Ev.step (fun k => impl_added.l0.eq_2 _ _ _ _ _ k) ?_
    refine ev_pos (by omega) (ev_pos (by omega) (ev_pos (by omega) (ev_pos (by omega) (ev_pos (by omega) ?_))))
    rw [inc (by omega), xor_u8 (bytes_rd hv (by omega)) (bytes_rd hw (by omega)), rd_get (by omega), rd_get (by omega)]
    refine impl_added.ev_l0 v w hv hw hl hs n (i + 1) _ (by omega) ?_
    rw [List.take_succ_eq_append_getElem (by omega), ← ho]
    simp [addV]
theorem impl_added.ev {v w : List Int} (hv : Bytes v) (hw : Bytes w) (hl : v.length = w.length) (hs : v.length < 140737488355328) : Ev (fun k => impl_added.f k v w) (addV v w) := by
  unfold impl_added.f
  exact impl_added.ev_l0 v w hv hw hl hs v.length 0 [] (by omega) rfl

theorem impl_sumOf.ev {s t : ByteArray} (hs : s.size < 140737488355328) (h : s.size = t.size) : Ev (fun k => impl_sumOf.f k s t) (strOfNums (addV (bytesOf s) (bytesOf t))) := by
  unfold impl_sumOf.f
  exact ev_pos (by omega) (ev_bind (impl_added.ev (bytes_bytesOf s) (bytes_bytesOf t) (by rw [bytesOf_length, bytesOf_length]; exact h) (by rw [bytesOf_length]; exact hs)) (ev_now rfl))

theorem impl_scaled.ev_l0 (a : Int) (ha : Byte a) (v : List Int) (hv : Bytes v) (hs : v.length < 140737488355328) : ∀ (n i : Nat) (o : List Int), i + n = v.length → o = (scale a v).take i →
    Ev (fun k => impl_scaled.l0 k a o v (v.length : Int) (i : Int)) (scale a v)
  | 0, i, o, hi, ho => by
    refine Ev.step (fun k => impl_scaled.l0.eq_2 _ _ _ _ _ k) ?_
    refine ev_neg (by omega) (ev_now ?_)
    subst ho
    rw [List.take_of_length_le (by rw [scale_length]; omega)]
  | n + 1, i, o, hi, ho => by
    have hz := scale_length a v
    have hlen : o.length = i := by rw [ho, List.length_take, hz]; omega
    refine Ev.step (fun k => impl_scaled.l0.eq_2 _ _ _ _ _ k) ?_
    refine ev_pos (by omega) (ev_pos (by omega) (ev_pos (by omega) ?_))
    refine ev_bind (impl_Times.ev ha (bytes_rd hv (by omega))) ?_
    refine ev_pos (by omega) ?_
    rw [inc (by omega), rd_get (by omega)]
    refine impl_scaled.ev_l0 a ha v hv hs n (i + 1) _ (by omega) ?_
    rw [List.take_succ_eq_append_getElem (by omega), ← ho]
    simp [scale]
theorem impl_scaled.ev {a : Int} (ha : Byte a) {v : List Int} (hv : Bytes v) (hs : v.length < 140737488355328) : Ev (fun k => impl_scaled.f k a v) (scale a v) := by
  unfold impl_scaled.f
  exact impl_scaled.ev_l0 a ha v hv hs v.length 0 [] (by omega) rfl

theorem impl_timesOf.ev {a : Int} (ha : Byte a) {s : ByteArray} (hs : s.size < 140737488355328) : Ev (fun k => impl_timesOf.f k a s) (strOfNums (scale a (bytesOf s))) := by
  unfold impl_timesOf.f
  exact ev_pos (by omega) (ev_bind (impl_scaled.ev ha (bytes_bytesOf s) (by rw [bytesOf_length]; exact hs)) (ev_now rfl))

theorem impl_combined.ev_l1 (D : List ByteArray) (hD : ∀ j, j < D.length → (txt D j).size = (txt D 0).size) (hs : (txt D 0).size < 140737488355328) (hl : D.length < 4611686018427387904) (r : List Int) (hr : Bytes r) (hrl : r.length = D.length) (out : List ByteArray) (ho : out.length < 8796093022208)
    (R : List (List Int)) (x13 x14 : Int) {Z : List ByteArray} (K : Ev (fun k => impl_combined.l0 k D (out ++ [strOfNums (mixTo r D (txt D 0).size D.length)]) R x13 (wrap64 (x14 + 1))) Z) : ∀ (d j : Nat), j + d = D.length →
    Ev (fun k => impl_combined.l1 k D out r (strOfNums (mixTo r D (txt D 0).size j)) R x13 x14 D (D.length : Int) (j : Int)) Z
  | 0, j, hj => by
    have e : j = D.length := by omega
    subst e
    refine Ev.step (fun k => impl_combined.l1.eq_2 _ _ _ _ _ _ _ _ _ _ k) ?_
    exact ev_neg (by omega) (ev_pos ho K)
  | d + 1, j, hj => by
    refine Ev.step (fun k => impl_combined.l1.eq_2 _ _ _ _ _ _ _ _ _ _ k) ?_
    obtain ⟨h1, h2⟩ := mixTo_ok (n := (txt D 0).size) hr hD j (by omega)
    have h3 := hD j (by omega)
    simp only [rdOf_nat]
    refine ev_pos (by omega) (ev_pos (by omega) (ev_pos (by omega) (ev_pos (by omega) ?_)))
    refine ev_bind (impl_timesOf.ev (bytes_rd hr (by omega)) (by omega)) (ev_bind (impl_sumOf.ev (by rw [strOfNums_size]; omega) (by rw [strOfNums_size, strOfNums_size, scale_length, bytesOf_length]; omega)) ?_)
    rw [bytesOf_str h1, bytesOf_str (scale_bytes (bytes_rd hr (by omega)) _), inc (by omega), rd_nat]
    exact impl_combined.ev_l1 D hD hs hl r hr hrl out ho R x13 x14 K d (j + 1) (by omega)
theorem impl_combined.ev_l0 (D : List ByteArray) (hp : 0 < D.length) (hD : ∀ j, j < D.length → (txt D j).size = (txt D 0).size) (hs : (txt D 0).size < 140737488355328) (hl : D.length < 4611686018427387904) (R : List (List Int)) (hR : ∀ r ∈ R, Bytes r ∧ r.length = D.length) (hRl : R.length < 8796093022208) : ∀ (d i : Nat), i + d = R.length →
    Ev (fun k => impl_combined.l0 k D ((mixT R D).take i) R (R.length : Int) (i : Int)) (mixT R D)
  | 0, i, hi => by
    have hz := mixT_length R D
    refine Ev.step (fun k => impl_combined.l0.eq_2 _ _ _ _ _ k) ?_
    refine ev_neg (by omega) (ev_now ?_)
    rw [List.take_of_length_le (by omega)]
  | d + 1, i, hi => by
    have hz := mixT_length R D
    have hlt : i < R.length := by omega
    have hm := hR _ (List.getElem_mem hlt)
    refine Ev.step (fun k => impl_combined.l0.eq_2 _ _ _ _ _ k) ?_
    simp only [rdOf_zero, Int.toNat_natCast]
    rw [rdSS R i hlt]
    refine ev_pos (by omega) (ev_pos (by omega) (ev_pos (by omega) (ev_pos (by omega) (ev_pos (by omega) (ev_pos (by omega) ?_)))))
    refine impl_combined.ev_l1 D hD hs hl R[i] hm.1 hm.2 _ (by rw [List.length_take]; omega) R _ _ ?_ D.length 0 (by omega)
    rw [inc (by omega)]
    have e : (mixT R D).take i ++ [strOfNums (mixTo R[i] D (txt D 0).size D.length)] = (mixT R D).take (i + 1) := by
      rw [List.take_succ_eq_append_getElem (by omega)]
      simp [mixT]
    rw [e]
    exact impl_combined.ev_l0 D hp hD hs hl R hR hRl d (i + 1) (by omega)
theorem impl_combined.ev {D : List ByteArray} (hp : 0 < D.length) (hD : ∀ j, j < D.length → (txt D j).size = (txt D 0).size) (hs : (txt D 0).size < 140737488355328) (hl : D.length < 4611686018427387904) {R : List (List Int)} (hR : ∀ r ∈ R, Bytes r ∧ r.length = D.length) (hRl : R.length < 8796093022208) : Ev (fun k => impl_combined.f k R D) (mixT R D) := by
  unfold impl_combined.f
  exact impl_combined.ev_l0 D hp hD hs hl R hR hRl R.length 0 (by omega)

theorem impl_within.ev (a b c : Int) : impl_within.f a b c = some (decide (b ≤ a ∧ a ≤ c)) := by
  unfold impl_within.f
  by_cases h : a ≥ b
  · rw [if_pos h]; simp [h]
  · rw [if_neg h]; simp; omega

theorem impl_GoodLocal.ev (g e m : Int) : impl_GoodLocal.f g e m = some (decide (GoodLocal g e m)) := by
  unfold impl_GoodLocal.f
  simp only [impl_within.ev, Option.bind_some, decide_eq_true_eq]
  by_cases h1 : 1 ≤ g ∧ g ≤ 4
  · by_cases h2 : 1 ≤ e ∧ e ≤ 4
    · have em := (small_mul ⟨h1, h2⟩).1
      rw [em]
      by_cases h3 : g * e ≤ 8 <;> simp [h1, h2, h3]
    · simp [h1, h2]
  · simp [h1]


theorem impl_localRows.ev {g e m : Nat} (h : GoodLocal (g : Int) (e : Int) (m : Int)) : Ev (fun k => impl_localRows.f k (g : Int) (e : Int) (m : Int)) (localM g e m) := by
  unfold impl_localRows.f
  have hm := (small_mul h.1).1
  obtain ⟨⟨⟨h1, h2⟩, h3, h4⟩, h5, h6, h7⟩ := h
  have e1 : (g : Int) * (e : Int) = ((g * e : Nat) : Int) := by rw [Int.natCast_mul]
  rw [e1] at h5
  unfold impl_Local_data.f
  simp only [Option.bind_some]
  rw [hm, e1]
  refine ev_bind (impl_identity.ev (g * e) (by omega)) ?_
  have hgr : Ev (fun k => impl_grpRows.f (e : Int) k (g : Int) ((g * e : Nat) : Int)) (tab g (g * e) (grpAt e)) := by
    unfold impl_grpRows.f
    refine impl_filled.ev g (g * e) (grpAt e) (by omega) (by omega) (fun i hi j hj => ?_)
    unfold impl_grpRows.E
    refine ev_pos (by omega) (ev_now ?_)
    unfold grpAt
    have : (j : Int) / (e : Int) = ((j / e : Nat) : Int) := by rw [Int.natCast_ediv]
    rw [this]
    by_cases c : j / e = i
    · rw [if_pos c, if_pos (by omega)]
    · rw [if_neg c, if_neg (by omega)]
  refine ev_bind hgr (ev_pos (by rw [idM_length, tab_length]; omega) (ev_bind (impl_cauchy.ev m (g * e) (by omega) (by omega)) (ev_pos (by rw [List.length_append, idM_length, tab_length, tab_length]; omega) (ev_now rfl))))

theorem impl_areEqual.ev {l : List ByteArray} (h : textsLe 140737488355328 l) : impl_areEqual.f l = some (textsOk l) := by
  unfold impl_areEqual.f
  exact if_pos (show l.length ≤ 140737488355328 ∧ ∀ s ∈ l, s.size ≤ 140737488355328 from h)

theorem impl_shardsOf.ev_l0 (T : List ByteArray) (hT : T.length < 5864062014805) : ∀ (d i : Nat), i + d = T.length → Ev (fun k => impl_shardsOf.l0 k ((shardsL T).take i) T (T.length : Int) (i : Int)) (shardsL T)
  | 0, i, hi => by
    have hz := shardsL_length T
    refine Ev.step (fun k => impl_shardsOf.l0.eq_2 _ _ _ _ k) ?_
    refine ev_neg (by omega) (ev_now ?_)
    rw [List.take_of_length_le (by omega)]
  | d + 1, i, hi => by
    have hz := shardsL_length T
    refine Ev.step (fun k => impl_shardsOf.l0.eq_2 _ _ _ _ k) ?_
    refine ev_pos (by omega) (ev_pos (by omega) (ev_pos (by omega) (ev_pos (by rw [List.length_take]; omega) ?_)))
    rw [rdOf_nat, ← shardsL_succ T i (by omega), inc (by omega)]
    exact impl_shardsOf.ev_l0 T hT d (i + 1) (by omega)
theorem impl_shardsOf.ev {T : List ByteArray} (hT : T.length < 5864062014805) : Ev (fun k => impl_shardsOf.f k T) (shardsL T) := by
  unfold impl_shardsOf.f
  exact impl_shardsOf.ev_l0 T hT T.length 0 (by omega)

theorem impl_EncodeLocal.ev_yes {a b c : Nat} {l : List ByteArray} (h : GoodLocal (a : Int) (b : Int) (c : Int)) (hl : (l.length : Int) = (a : Int) * (b : Int)) (ht : textsOk l = true) : Ev (fun k => impl_EncodeLocal.j0 k l false (a : Int) (b : Int) (c : Int)) (shardsL (mixT (localM a b c) l), true) := by
  obtain ⟨⟨⟨h1, h2⟩, h3, h4⟩, h5, h6, h7⟩ := id h
  have e1 : (a : Int) * (b : Int) = ((a * b : Nat) : Int) := by rw [Int.natCast_mul]
  rw [e1] at hl h5
  have hp : 1 * 1 ≤ a * b := Nat.mul_le_mul (by omega) (by omega)
  have hs := textsOk_all ht
  have h0 := hs 0 (by omega)
  have hz := mixT_length (localM a b c) l
  rw [localM_length] at hz
  have hln : l.length = a * b := by omega
  refine Ev.step (fun k => impl_EncodeLocal.j0.eq_2 _ _ _ _ _ k) ?_
  refine ev_neg (by simp) (ev_bind (impl_localRows.ev h) ?_)
  refine ev_bind (impl_combined.ev (by omega) (fun j hj => (hs j hj).1) (by omega) (by omega) (by rw [hln]; exact localM_rows a b c) (by rw [localM_length]; omega)) ?_
  exact ev_bind (impl_shardsOf.ev (by omega)) (ev_now rfl)
theorem impl_EncodeLocal.ev {l : List ByteArray} (hl : textsLe 1048576 l) (g e m : Int) : Ev (fun k => impl_EncodeLocal.f k g e m l) (encLocal g e m l) := by
  unfold impl_EncodeLocal.f encLocal
  simp only [impl_GoodLocal.ev, Option.bind_some, decide_eq_true_eq]
  have hno : ∀ c : Prop, [Decidable c] → ¬ c → Ev (fun k => impl_EncodeLocal.j0 k l true g e m) (if c then (shardsL (mixT (localM g.toNat e.toNat m.toNat) l), true) else ([], false)) := fun c _ hc => by
    refine Ev.step (fun k => impl_EncodeLocal.j0.eq_2 _ _ _ _ _ k) ?_
    exact ev_pos rfl (ev_now (if_neg hc).symm)
  by_cases h1 : GoodLocal g e m
  · refine ev_pos h1 ?_
    simp only [impl_Local_data.ev h1, Option.bind_some]
    by_cases h2 : (l.length : Int) = g * e
    · refine ev_pos h2 ?_
      simp only [impl_areEqual.ev (show textsLe 140737488355328 l from ⟨by have := hl.1; omega, fun s hs => by have := hl.2 s hs; omega⟩), Option.bind_some]
      cases h3 : textsOk l with
      | true =>
        rw [if_pos ⟨h1, h2, rfl⟩]
        obtain ⟨a, b, c, rfl, rfl, rfl, _⟩ := GoodLocal_nat h1
        exact impl_EncodeLocal.ev_yes h1 h2 h3
      | false => exact hno _ (fun z => by cases z.2.2)
    · exact ev_neg h2 (hno _ (fun z => h2 z.2.1))
  · exact ev_neg h1 (hno _ (fun z => h1 z.1))

theorem FnExactEncodeLocal : ∀ (g e m : Int) (l : List ByteArray), ((Lit.int .i64 g).wf = true ∧ (Lit.int .i64 e).wf = true ∧ (Lit.int .i64 m).wf = true) → (l.length ≤ maxLen ∧ ∀ x ∈ l, ByteArray.size x ≤ maxLen) → ∃ k, laws_FnExactEncodeLocal.f k g e m l = some true := by
  intro g e m l _ hl
  refine Ev.rounds ?_
  unfold laws_FnExactEncodeLocal.f
  refine ev_bind (laws_szStringS.ev l hl.1 hl.2 1048576 (by omega) (by omega)) ?_
  by_cases hz : (l.length : Int) + (totT l : Int) ≤ 1048576
  · rw [if_pos hz]
    refine ev_neg (by omega) ?_
    have ht := textsLe_of hz
    have h20 := ht.1
    have hs := spec_EncodeLocal.ev ht g e m
    have hi := impl_EncodeLocal.ev ht g e m
    have hv := encLocal_len g e m l
    generalize encLocal g e m l = rb at hs hi hv
    obtain ⟨r, b⟩ := rb
    have hv1 : r.length ≤ 20 := hv
    repeat first
      | exact ev_now rfl
      | (simp only [laws_toLocal.ev, Option.bind_some])
      | refine ev_bind hs ?_
      | refine ev_bind hi ?_
      | refine ev_bind (laws_toStringS.ev _ (by omega)) ?_
      | refine ev_bind (laws_eqStringS.ev _ (by omega)) ?_
      | refine ev_bind (laws_markStringS.ev _ _ (by omega) (by omega)) ?_
      | refine ev_bind (laws_eqShardS.ev _ (by omega)) ?_
      | refine ev_bind (laws_markShardS.ev _ _ (by omega) (by omega)) ?_
      | refine ev_bind (laws_heldShardS.ev _ _ (by omega) (by omega)) ?_
      | refine Ev.step (fun k => laws_FnExactEncodeLocal.j0.eq_2 _ _ _ _ _ _ _ _ _ _ k) ?_
      | refine Ev.step (fun k => laws_FnExactEncodeLocal.j1.eq_2 _ _ _ _ _ _ _ _ k) ?_
      | refine Ev.step (fun k => laws_FnExactEncodeLocal.j2.eq_2 _ _ _ k) ?_
      | refine ev_pos rfl ?_
      | (refine ev_neg ?hc ?_; (case hc => first | omega | (simp; done) | (simp; omega)))
      | (refine ev_pos ?hc ?_; (case hc => first | omega | (simp; done)))
  · rw [if_neg hz]
    exact ev_pos (by omega) (ev_now rfl)

end Go.Proofs.Ytlmcobjpmonkfaa.Pure
