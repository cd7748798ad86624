/- The given program's MergeStripes returns what the reference's MergeStripes returns, for all stripes, leaves them as they were, and what it returns is its own; there is no condition. -/
import Derived.Test.YtlmcobjpmonkfaaPFnExactMergeStripesx
import Derived.Test.YtlmcobjpmonkfaaWalkFnExactMergeStripes
import Derived.Test.YtlmcobjpmonkfaaVMergeStripesKit
import Derived.Test.YtlmcobjpmonkfaaVMergeStripesTxt
namespace Go.Proofs.Ytlmcobjpmonkfaa.Pure
open Go.RowKit Go.Proofs.Ytlmcobjpmonkfaa.PFnExactMergeStripes Go.Proofs.YtlmcobjpmonkfaaW.PrintWords Go.Proofs.YtlmcobjpmonkfaaW.PrintLast Go.Proofs.Ytlmcobjpmonkfaa.Gf Go.Proofs.Ytlmcobjpmonkfaa.Kit Go.Proofs.Ytlmcobjpmonkfaa.KitW
set_option linter.unusedVariables false
set_option linter.unusedSimpArgs false

theorem impl_Times.ev_l0 (b : Nat) (hb : b < 256) : ∀ (n i o x : Nat), i + n = 8 → o < 256 → x < 256 →
  Ev (fun k => impl_Times.l0 k (b : Int) (o : Int) (i : Int) (x : Int)) ((T n o x (b / 2 ^ i) : Nat) : Int)
 | 0, i, o, x, hi, ho, hx => by
  refine Ev.step (fun k => impl_Times.l0.eq_2 _ _ _ _ k) ?_
  refine ev_neg (by omega) (ev_now ?_)
  simp only [T]
  omega
 | n + 1, i, o, x, hi, ho, hx => by
  refine Ev.step (fun k => impl_Times.l0.eq_2 _ _ _ _ k) ?_
  refine ev_pos (by omega) (ev_pos (by omega) ?_)
  have e1 : shr .u8 (b : Int) (i : Int) = ((b / 2 ^ i : Nat) : Int) := by
   unfold shr
   rw [Nat.min_eq_left (by simp only [IntKind.bits]; omega)]
   simp
  have hd : b / 2 ^ i < 256 := Nat.lt_of_le_of_lt (Nat.div_le_self _ _) hb
  have e2 : wrap64 ((x : Int) * 2) = ((2 * x : Nat) : Int) := by rw [wrap_id (by omega) (by omega)]; omega
  have e3 : wrap64 ((i : Int) + 1) = ((i + 1 : Nat) : Int) := by rw [wrap_id (by omega) (by omega)]; omega
  rw [e1, and1_u8 hd, e2, e3]
  have e4 : Go.bits .xor .i64 (o : Int) (x : Int) = ((o ^^^ x : Nat) : Int) := xor_i64 (by omega) (by omega)
  have e5 : Go.bits .xor .i64 ((2 * x : Nat) : Int) 283 = ((2 * x ^^^ 283 : Nat) : Int) := xor_i64 (m := 2 * x) (n := 283) (by omega) (by omega)
  have e6 : b / 2 ^ i / 2 = b / 2 ^ (i + 1) := by rw [Nat.div_div_eq_div_mul, Nat.pow_succ]
  rw [e4, e5]
  have hT : T (n + 1) o x (b / 2 ^ i) = T n (if b / 2 ^ i % 2 = 1 then o ^^^ x else o) (xt x) (b / 2 ^ (i + 1)) := by rw [T, e6]
  rw [hT]
  have hxt := xt_lt hx
  have hox := xor_lt ho hx
  by_cases h1 : b / 2 ^ i % 2 = 1
  ·rw [if_pos h1]
   refine ev_pos (by omega) ?_
   by_cases h2 : 2 * x > 255
   ·refine ev_pos (by omega) ?_
    have : xt x = 2 * x ^^^ 283 := by unfold xt; rw [if_pos h2]
    rw [this] at hxt ⊢
    exact impl_Times.ev_l0 b hb n (i + 1) _ _ (by omega) hox hxt
   ·refine ev_neg (by omega) ?_
    have : xt x = 2 * x := by unfold xt; rw [if_neg h2]
    rw [this] at hxt ⊢
    exact impl_Times.ev_l0 b hb n (i + 1) _ _ (by omega) hox hxt
  ·rw [if_neg h1]
   refine ev_neg (by omega) ?_
   by_cases h2 : 2 * x > 255
   ·refine ev_pos (by omega) ?_
    have : xt x = 2 * x ^^^ 283 := by unfold xt; rw [if_pos h2]
    rw [this] at hxt ⊢
    exact impl_Times.ev_l0 b hb n (i + 1) _ _ (by omega) ho hxt
   ·refine ev_neg (by omega) ?_
    have : xt x = 2 * x := by unfold xt; rw [if_neg h2]
    rw [this] at hxt ⊢
    exact impl_Times.ev_l0 b hb n (i + 1) _ _ (by omega) ho hxt
theorem impl_Times.ev {a b : Int} (ha : Byte a) (hb : Byte b) : Ev (fun k => impl_Times.f k a b) (mul a b) := by
 obtain ⟨m, hm, rfl⟩ := ha.nat
 obtain ⟨n, hn, rfl⟩ := hb.nat
 unfold impl_Times.f
 rw [wrap_id (by omega) (by omega)]
 have h := impl_Times.ev_l0 n hn 8 0 0 m rfl (by decide) hm
 exact ev_eq h (by unfold Gf.mul gm; simp)

theorem impl_power.ev_l0 : ∀ (N n : Nat) (a o : Int), n ≤ N → n < 4294967296 → Byte a → Byte o → Ev (fun k => impl_power.l0 k a (n : Int) o) (mul o (pow a n)) := by
 intro N
 induction N with
 | zero =>
  intro n a o hN hn ha ho
  obtain rfl : n = 0 := by omega
  refine Ev.step (fun k => impl_power.l0.eq_2 _ _ _ k) ?_
  exact ev_neg (by omega) (ev_now (by rw [pow_zero, mul_one ho]))
 | succ N ih =>
  intro n a o hN hn ha ho
  refine Ev.step (fun k => impl_power.l0.eq_2 _ _ _ k) ?_
  by_cases h0 : n = 0
  ·subst h0
   exact ev_neg (by omega) (ev_now (by rw [pow_zero, mul_one ho]))
  refine ev_pos (by omega) ?_
  have e : ((n : Int) / 2) = ((n / 2 : Nat) : Int) := by omega
  have haa := Byte.mul ha a
  have hsq : pow (mul a a) (n / 2) = pow a (2 * (n / 2)) := by rw [pow_mul ha, pow_two ha]
  rw [and1_i64 hn, e]
  by_cases h1 : n % 2 = 1
  ·refine ev_pos (by omega) ?_
   refine ev_bind (impl_Times.ev ho ha) (ev_bind (impl_Times.ev ha ha) ?_)
   refine ev_eq (ih (n / 2) _ _ (by omega) (by omega) haa (Byte.mul ho a)) ?_
   have hn2 : n = 1 + 2 * (n / 2) := by omega
   rw [hsq, mul_assoc ho ha (Byte.pow ha _)]
   conv => rhs; rw [hn2, pow_add ha, pow_one ha]
  ·refine ev_neg (by omega) ?_
   refine ev_bind (impl_Times.ev ha ha) ?_
   refine ev_eq (ih (n / 2) _ _ (by omega) (by omega) haa ho) ?_
   have hn2 : n = 2 * (n / 2) := by omega
   rw [hsq, ← hn2]
theorem impl_power.ev {a : Int} (ha : Byte a) (n : Nat) (hn : n < 4294967296) : Ev (fun k => impl_power.f k a (n : Int)) (pow a n) := by
 unfold impl_power.f
 refine ev_eq (impl_power.ev_l0 n n a 1 (Nat.le_refl _) hn ha .one) ?_
 exact one_mul (Byte.pow ha n)

theorem laws_szStringS.ev_l0 (l : List ByteArray) (hl : l.length ≤ 1048576) (hr : ∀ r ∈ l, r.size ≤ maxLen) : ∀ (n i : Nat) (t : Int), i + n = l.length → 0 ≤ t → t ≤ 1048576 →
  Ev (fun k => laws_szStringS.l0 k l t (i : Int)) (if (totT (l.drop i) : Int) ≤ t then t - (totT (l.drop i) : Int) else -1)
 | 0, i, t, hi, h0, h1 => by
  refine Ev.step (fun k => laws_szStringS.l0.eq_2 _ _ _ k) ?_
  refine ev_neg (by omega) (ev_now ?_)
  rw [List.drop_of_length_le (by omega)]
  simp [totT, h0]
 | n + 1, i, t, hi, h0, h1 => by
  have hlt : i < l.length := by omega
  have hm : i < 4611686018427387904 := by omega
  have he : totT (l.drop i) = l[i].size + totT (l.drop (i + 1)) := by rw [List.drop_eq_getElem_cons hlt]; rfl
  have hb := hr _ (List.getElem_mem hlt)
  unfold maxLen at hb
  have hw : wrap64 (t - (l[i].size : Int)) = t - (l[i].size : Int) := by unfold wrap64; omega
  refine Ev.step (fun k => laws_szStringS.l0.eq_2 _ _ _ k) ?_
  refine ev_pos (by omega) (ev_pos (by omega) ?_)
  rw [rdOf_nat, txt_get hlt, he, hw]
  by_cases h : (l[i].size : Int) ≤ t
  ·refine ev_neg (by omega) ?_
   rw [inc hm]
   refine ev_eq (laws_szStringS.ev_l0 l hl hr n (i + 1) (t - (l[i].size : Int)) (by omega) (by omega) (by omega)) ?_
   by_cases h2 : (totT (l.drop (i + 1)) : Int) ≤ t - (l[i].size : Int)
   ·rw [if_pos h2, if_pos (by omega)]; omega
   ·rw [if_neg h2, if_neg (by omega)]
  ·refine ev_pos (by omega) (ev_now ?_)
   rw [if_neg (by omega)]
theorem laws_szStringS.ev (l : List ByteArray) (hl : l.length ≤ maxLen) (hr : ∀ r ∈ l, r.size ≤ maxLen) (t : Int) (h0 : 0 ≤ t) (h1 : t ≤ 1048576) :
  Ev (fun k => laws_szStringS.f k l t) (if (l.length : Int) + (totT l : Int) ≤ t then t - (l.length : Int) - (totT l : Int) else -1) := by
 unfold laws_szStringS.f
 have e : wrap64 (t - (l.length : Int)) = t - (l.length : Int) := by unfold maxLen at hl; unfold wrap64; omega
 rw [e]
 by_cases h : (l.length : Int) ≤ t
 ·refine ev_neg (by omega) (ev_eq (laws_szStringS.ev_l0 l (by omega) hr l.length 0 _ (by omega) (by omega) (by omega)) ?_)
  rw [List.drop_zero]
  by_cases h2 : (totT l : Int) ≤ t - (l.length : Int)
  ·rw [if_pos h2, if_pos (by omega)]
  ·rw [if_neg h2, if_neg (by omega)]
 ·refine ev_pos (by omega) (ev_now ?_)
  rw [if_neg (by omega)]

theorem laws_szStripe.ev (l m : List ByteArray) (hl : l.length ≤ maxLen ∧ ∀ x ∈ l, ByteArray.size x ≤ maxLen) (hm : m.length ≤ maxLen ∧ ∀ x ∈ m, ByteArray.size x ≤ maxLen) (t : Int) (h0 : 0 ≤ t) (h1 : t ≤ 1048576) :
  Ev (fun k => laws_szStripe.f k l m t) (if (l.length : Int) + (totT l : Int) + ((m.length : Int) + (totT m : Int)) ≤ t then t - ((l.length : Int) + (totT l : Int)) - ((m.length : Int) + (totT m : Int)) else -1) := by
 unfold laws_szStripe.f
 refine ev_bind (laws_szStringS.ev l hl.1 hl.2 t h0 h1) ?_
 by_cases c : (l.length : Int) + (totT l : Int) ≤ t
 ·rw [if_pos c]
  refine ev_neg (by omega) (ev_bind (laws_szStringS.ev m hm.1 hm.2 _ (by omega) (by omega)) ?_)
  by_cases c2 : (m.length : Int) + (totT m : Int) ≤ t - (l.length : Int) - (totT l : Int)
  ·rw [if_pos c2]
   refine ev_neg (by omega) (ev_now ?_)
   rw [if_pos (by omega)]
   omega
  ·rw [if_neg c2]
   refine ev_pos (by omega) (ev_now ?_)
   rw [if_neg (by omega)]
 ·rw [if_neg c]
  refine ev_pos (by omega) (ev_now ?_)
  rw [if_neg (by omega)]

theorem laws_toStringS.ev_l0 (l : List ByteArray) (hl : l.length < 4611686018427387904) : ∀ (n i : Nat) (o : List ByteArray), i + n = l.length → o.length = l.length → o.take i = l.take i →
  Ev (fun k => laws_toStringS.l0 k l o (i : Int)) l
 | 0, i, o, hi, ho, ht => by
  refine Ev.step (fun k => laws_toStringS.l0.eq_2 _ _ _ k) ?_
  refine ev_neg (by omega) (ev_now ?_)
  rw [List.take_of_length_le (by omega), List.take_of_length_le (by omega)] at ht
  exact ht
 | n + 1, i, o, hi, ho, ht => by
  refine Ev.step (fun k => laws_toStringS.l0.eq_2 _ _ _ k) ?_
  refine ev_pos (by omega) (ev_pos (by omega) (ev_pos (by omega) ?_))
  rw [inc (by omega), Int.toNat_natCast, rdOf_nat]
  refine laws_toStringS.ev_l0 l hl n (i + 1) _ (by omega) (by simpa using ho) ?_
  rw [take_set_T _ _ _ (by omega), ht, List.take_succ_eq_append_getElem (by omega), txt_get (by omega)]
theorem laws_toStringS.ev (l : List ByteArray) (hl : l.length ≤ 17592186044416) : Ev (fun k => laws_toStringS.f k l) l := by
 unfold laws_toStringS.f
 refine ev_pos (by omega) (ev_pos (by omega) ?_)
 exact laws_toStringS.ev_l0 l (by omega) l.length 0 _ (by omega) (by simp) rfl

theorem laws_toStripe.ev (l m : List ByteArray) (hl : l.length ≤ 17592186044416) (hm : m.length ≤ 17592186044416) : Ev (fun k => laws_toStripe.f k l m) (l, m) := by
 unfold laws_toStripe.f
 exact ev_bind (laws_toStringS.ev l hl) (ev_bind (laws_toStringS.ev m hm) (ev_now rfl))

theorem laws_eqStringS.ev_l0 (l : List ByteArray) (hl : l.length < 4611686018427387904) : ∀ (n i : Nat), i + n = l.length → Ev (fun k => laws_eqStringS.l0 k l l (i : Int)) true
 | 0, i, hi => by
  refine Ev.step (fun k => laws_eqStringS.l0.eq_2 _ _ _ k) ?_
  exact ev_neg (by omega) (ev_now rfl)
 | n + 1, i, hi => by
  refine Ev.step (fun k => laws_eqStringS.l0.eq_2 _ _ _ k) ?_
  refine ev_pos (by omega) (ev_pos (by omega) (ev_pos (by omega) (ev_pos rfl ?_)))
  rw [inc (by omega)]
  exact laws_eqStringS.ev_l0 l hl n (i + 1) (by omega)
theorem laws_eqStringS.ev (l : List ByteArray) (hl : l.length ≤ 281474976710656) : Ev (fun k => laws_eqStringS.f k l l) true := by
 unfold laws_eqStringS.f
 exact ev_pos rfl (laws_eqStringS.ev_l0 l (by omega) l.length 0 (by omega))

theorem laws_eqStripe.ev (l m : List ByteArray) (hl : l.length ≤ 281474976710656) (hm : m.length ≤ 281474976710656) : Ev (fun k => laws_eqStripe.f k l m l m) true := by
 unfold laws_eqStripe.f
 exact ev_bind (laws_eqStringS.ev l hl) (ev_pos rfl (ev_bind (laws_eqStringS.ev m hm) (ev_pos rfl (ev_now rfl))))

theorem laws_markText.ev_l0 : ∀ (f x : Nat) (s : List Int), x < 10 ^ f → x < 4611686018427387904 → s.length + f ≤ 1000 → Ev (fun k => laws_markText.l0 k (x : Int) (strOfNums s)) (strOfNums (mtl f x s))
 | 0, x, s, h, h2, hs => by
  have e : x = 0 := by omega
  subst e
  refine Ev.step (fun k => laws_markText.l0.eq_2 _ _ k) ?_
  refine ev_neg (by omega) (ev_pos (by rw [strOfNums_size]; omega) (ev_now ?_))
  exact str_append [109] s
 | f + 1, x, s, h, h2, hs => by
  unfold mtl
  by_cases e : x = 0
  ·rw [if_pos e]
   subst e
   refine Ev.step (fun k => laws_markText.l0.eq_2 _ _ k) ?_
   refine ev_neg (by omega) (ev_pos (by rw [strOfNums_size]; omega) (ev_now ?_))
   exact str_append [109] s
  ·rw [if_neg e]
   refine Ev.step (fun k => laws_markText.l0.eq_2 _ _ k) ?_
   refine ev_pos (by omega) ?_
   simp only [Option.bind_some]
   have e1 : Int.tmod (x : Int) 10 = ((x % 10 : Nat) : Int) := by rw [Int.tmod_eq_emod_of_nonneg (by omega)]; omega
   have e2 : Int.tdiv (x : Int) 10 = ((x / 10 : Nat) : Int) := by rw [Int.tdiv_eq_ediv_of_nonneg (by omega)]; omega
   have e3 : (wrap64 (48 + ((x % 10 : Nat) : Int))) % 256 = 48 + ((x % 10 : Nat) : Int) := by unfold wrap64; omega
   have e4 : wrap64 ((x / 10 : Nat) : Int) = ((x / 10 : Nat) : Int) := by unfold wrap64; omega
   rw [e1, e2, e3, e4]
   refine ev_pos (by rw [strOfNums_size, strOfNums_size, List.length_singleton]; omega) ?_
   rw [str_append]
   exact laws_markText.ev_l0 f (x / 10) _ (by rw [Nat.pow_succ] at h; omega) (by omega) (by simp only [List.singleton_append, List.length_cons]; omega)
theorem laws_markText.ev (a : Int) (h : a < 4611686018427387904) : Ev (fun k => laws_markText.f k a) (mtx a) := by
 unfold laws_markText.f mtx
 by_cases c : a ≤ 0
 ·rw [if_pos c]; exact ev_pos c (ev_now rfl)
 ·rw [if_neg c]
  refine ev_neg c ?_
  obtain ⟨x, rfl⟩ := Int.eq_ofNat_of_zero_le (show 0 ≤ a by omega)
  rw [Int.toNat_natCast]
  exact laws_markText.ev_l0 20 x [] (by omega) (by omega) (by simp)

theorem laws_markStringS.ev_l0 (a : Int) (m : Nat) (ha : 0 ≤ a) (hm : a + m < 4611686018427387904) : ∀ (n i : Nat) (o : List ByteArray), i + n = m → o.length = m → o.take i = (markTS a m).take i →
  Ev (fun k => laws_markStringS.l0 k o (a + (i : Nat)) (i : Int)) (a + (m : Nat), markTS a m)
 | 0, i, o, hi, ho, ht => by
  refine Ev.step (fun k => laws_markStringS.l0.eq_2 _ _ _ k) ?_
  refine ev_neg (by omega) (ev_now ?_)
  have hb := markTS_length a m
  rw [List.take_of_length_le (by omega), List.take_of_length_le (by omega)] at ht
  subst ht
  have : i = m := by omega
  rw [this]
 | n + 1, i, o, hi, ho, ht => by
  refine Ev.step (fun k => laws_markStringS.l0.eq_2 _ _ _ k) ?_
  refine ev_pos (by omega) (ev_bind (laws_markText.ev _ (by omega)) (ev_pos (by omega) ?_))
  have e : wrap64 (a + (i : Nat) + 1) = a + ((i + 1 : Nat) : Int) := by unfold wrap64; omega
  rw [e, inc (by omega), Int.toNat_natCast]
  refine laws_markStringS.ev_l0 a m ha hm n (i + 1) _ (by omega) (by simpa using ho) ?_
  have hb := markTS_length a m
  rw [take_set_T _ _ _ (by omega), ht, List.take_succ_eq_append_getElem (by omega)]
  simp [markTS]
theorem laws_markStringS.ev (l : List ByteArray) (a : Int) (ha : 0 ≤ a) (hm : a + l.length < 4611686018427387904) : Ev (fun k => laws_markStringS.f k l a) (a + (l.length : Nat), markTS a l.length) := by
 unfold laws_markStringS.f
 have := laws_markStringS.ev_l0 a l.length ha hm l.length 0 l (by omega) rfl rfl
 simpa using this

theorem laws_markStripe.ev (l m : List ByteArray) (a : Int) (ha : 0 ≤ a) (hm : a + l.length + m.length < 4611686018427387904) : Ev (fun k => laws_markStripe.f k l m a) (a + (l.length : Nat) + (m.length : Nat), markTS a l.length, markTS (a + (l.length : Nat)) m.length) := by
 unfold laws_markStripe.f
 exact ev_bind (laws_markStringS.ev l a ha (by omega)) (ev_bind (laws_markStringS.ev m _ (by omega) (by omega)) (ev_now rfl))

theorem laws_heldStringS.ev_l0 (a : Int) (m : Nat) (ha : 0 ≤ a) (hm : a + m < 4611686018427387904) : ∀ (n i : Nat), i + n = m →
  Ev (fun k => laws_heldStringS.l0 k (markTS a m) (a + (i : Nat)) (i : Int)) (a + (m : Nat))
 | 0, i, hi => by
  have hb := markTS_length a m
  refine Ev.step (fun k => laws_heldStringS.l0.eq_2 _ _ _ k) ?_
  refine ev_neg (by omega) (ev_now ?_)
  have : i = m := by omega
  rw [this]
 | n + 1, i, hi => by
  have hb := markTS_length a m
  refine Ev.step (fun k => laws_heldStringS.l0.eq_2 _ _ _ k) ?_
  have e : wrap64 (a + (i : Nat) + 1) = a + ((i + 1 : Nat) : Int) := by unfold wrap64; omega
  rw [rdOf_nat, markTS_get _ _ _ (by omega), e, inc (by omega)]
  refine ev_pos (by omega) (ev_pos (by omega) (ev_bind (laws_markText.ev _ (by omega)) (ev_pos rfl ?_)))
  exact laws_heldStringS.ev_l0 a m ha hm n (i + 1) (by omega)
theorem laws_heldStringS.ev (a : Int) (m : Nat) (ha : 0 ≤ a) (hm : a + m < 4611686018427387904) : Ev (fun k => laws_heldStringS.f k (markTS a m) a) (a + (m : Nat)) := by
 unfold laws_heldStringS.f
 have := laws_heldStringS.ev_l0 a m ha hm m 0 (by omega)
 simpa using this

theorem laws_heldStripe.ev (a : Int) (n m : Nat) (ha : 0 ≤ a) (hm : a + n + m < 4611686018427387904) : Ev (fun k => laws_heldStripe.f k (markTS a n) (markTS (a + (n : Nat)) m) a) (a + (n : Nat) + (m : Nat)) := by
 unfold laws_heldStripe.f
 exact ev_bind (laws_heldStringS.ev a n ha (by omega)) (ev_neg (by omega) (ev_bind (laws_heldStringS.ev _ m (by omega) (by omega)) (ev_neg (by omega) (ev_now rfl))))

theorem spec_l1In.ev (a b c : Int) : spec_l1In.f a b c = some (decide (b ≤ a ∧ a ≤ c)) := by
 unfold spec_l1In.f
 by_cases h : a ≥ b
 ·rw [if_pos h]; simp [h]
 ·rw [if_neg h]; simp; omega

theorem spec_l3Texts.ev_l0 (l : List ByteArray) (hl : l.length < 4611686018427387904) : ∀ (d i : Nat), i + d = l.length → Ev (fun k => spec_l3Texts.l0 k l l (l.length : Int) (i : Int)) (!((List.range d).any fun t => badT l (i + t)))
 | 0, i, hi => by
  refine Ev.step (fun k => spec_l3Texts.l0.eq_2 _ _ _ _ k) ?_
  exact ev_neg (by omega) (ev_now rfl)
 | d + 1, i, hi => by
  refine Ev.step (fun k => spec_l3Texts.l0.eq_2 _ _ _ _ k) ?_
  simp only [rdOf_nat, rdOf_zero]
  refine ev_pos (by omega) (ev_pos (by omega) (ev_pos (by omega) (ev_pos (by omega) ?_)))
  have ha : ((List.range (d + 1)).any fun t => badT l (i + t)) = (badT l i || (List.range d).any fun t => badT l (i + 1 + t)) := by
   rw [List.range_succ_eq_map, List.any_cons, List.any_map, Nat.add_zero]
   congr 2
   funext t
   simp only [Function.comp_apply]
   rw [show i + (t + 1) = i + 1 + t by omega]
  rw [ha]
  by_cases h1 : (txt l i).size = (txt l 0).size
  ·refine ev_pos (by omega) ?_
   by_cases h2 : (txt l i).size > 40
   ·refine ev_pos (by omega) (ev_now ?_)
    have : badT l i = true := by unfold badT; rw [decide_eq_true (by omega), Bool.true_or]
    rw [this]; rfl
   ·refine ev_neg (by omega) ?_
    have : badT l i = false := by unfold badT; rw [decide_eq_false (by omega), h1]; simp
    rw [this, Bool.false_or, inc (by omega)]
    exact spec_l3Texts.ev_l0 l hl d (i + 1) (by omega)
  ·refine ev_neg (by omega) (ev_now ?_)
   have : badT l i = true := by unfold badT; rw [bne_iff_ne.2 h1, Bool.or_true]
   rw [this]; rfl
theorem spec_l3Texts.ev (l : List ByteArray) (hl : l.length < 4611686018427387904) : Ev (fun k => spec_l3Texts.f k l) (textsOk l) := by
 unfold spec_l3Texts.f
 have := spec_l3Texts.ev_l0 l hl l.length 0 (by omega)
 rw [textsOk_bad]
 simpa using this

theorem spec_GoodStripe.ev {D P : List ByteArray} (hD : textsLe 1048576 D) (hP : textsLe 1048576 P) : Ev (fun k => spec_GoodStripe.f k D P) (goodStripe D P) := by
 unfold spec_GoodStripe.f goodStripe
 have h1 := hD.1
 have h2 := hP.1
 simp only [spec_l1In.ev, Option.bind_some, decide_eq_true_eq]
 by_cases c1 : 1 ≤ (D.length : Int) ∧ (D.length : Int) ≤ 16
 ·refine ev_pos c1 ?_
  by_cases c2 : 1 ≤ (P.length : Int) ∧ (P.length : Int) ≤ 4
  ·refine ev_pos c2 (ev_pos (by simp; omega) (ev_pos (by simp; omega) (ev_bind (spec_l3Texts.ev _ (by simp; omega)) (ev_now ?_))))
   rw [decide_eq_true ⟨c1, c2⟩, Bool.true_and, List.nil_append]
  ·refine ev_neg c2 (ev_now ?_)
   rw [decide_eq_false (fun z => c2 z.2), Bool.false_and]
 ·refine ev_neg c1 (ev_now ?_)
  rw [decide_eq_false (fun z => c1 z.1), Bool.false_and]

theorem spec_l1Times.ev_l0 : ∀ (n o x y : Nat), y < 2 ^ n → n ≤ 8 → o < 256 → x < 256 →
  Ev (fun k => spec_l1Times.l0 k (o : Int) (x : Int) (y : Int)) ((T n o x y : Nat) : Int)
 | 0, o, x, y, hy, _, ho, hx => by
  refine Ev.step (fun k => spec_l1Times.l0.eq_2 _ _ _ k) ?_
  have : y = 0 := by simpa using hy
  subst this
  refine ev_neg (by decide) (ev_now ?_)
  simp only [T]
  omega
 | n + 1, o, x, y, hy, hn, ho, hx => by
  have hy8 : y < 256 := Nat.lt_of_lt_of_le hy (Nat.pow_le_pow_right (n := 2) (by decide) hn)
  by_cases h0 : y = 0
  ·subst h0
   refine Ev.step (fun k => spec_l1Times.l0.eq_2 _ _ _ k) ?_
   refine ev_neg (by decide) (ev_now ?_)
   rw [T_zero]
   omega
  refine Ev.step (fun k => spec_l1Times.l0.eq_2 _ _ _ k) ?_
  refine ev_pos (by omega) ?_
  have e2 : wrap64 ((x : Int) * 2) = ((2 * x : Nat) : Int) := by rw [wrap_id (by omega) (by omega)]; omega
  have e3 : ((y : Int) / 2) = ((y / 2 : Nat) : Int) := by omega
  have e4 : Go.bits .xor .i64 (o : Int) (x : Int) = ((o ^^^ x : Nat) : Int) := xor_i64 (by omega) (by omega)
  have e5 : Go.bits .xor .i64 ((2 * x : Nat) : Int) 283 = ((2 * x ^^^ 283 : Nat) : Int) := xor_i64 (m := 2 * x) (n := 283) (by omega) (by omega)
  rw [and1_i64 (by omega), e2, e3, e4, e5]
  have hT : T (n + 1) o x y = T n (if y % 2 = 1 then o ^^^ x else o) (xt x) (y / 2) := by rw [T]
  rw [hT]
  have hxt := xt_lt hx
  have hox := xor_lt ho hx
  have hh : y / 2 < 2 ^ n := by rw [Nat.pow_succ] at hy; omega
  by_cases h1 : y % 2 = 1
  ·rw [if_pos h1]
   refine ev_pos (by omega) ?_
   by_cases h2 : 2 * x > 255
   ·refine ev_pos (by omega) ?_
    have : xt x = 2 * x ^^^ 283 := by unfold xt; rw [if_pos h2]
    rw [this] at hxt ⊢
    exact spec_l1Times.ev_l0 n _ _ _ hh (by omega) hox hxt
   ·refine ev_neg (by omega) ?_
    have : xt x = 2 * x := by unfold xt; rw [if_neg h2]
    rw [this] at hxt ⊢
    exact spec_l1Times.ev_l0 n _ _ _ hh (by omega) hox hxt
  ·rw [if_neg h1]
   refine ev_neg (by omega) ?_
   by_cases h2 : 2 * x > 255
   ·refine ev_pos (by omega) ?_
    have : xt x = 2 * x ^^^ 283 := by unfold xt; rw [if_pos h2]
    rw [this] at hxt ⊢
    exact spec_l1Times.ev_l0 n _ _ _ hh (by omega) ho hxt
   ·refine ev_neg (by omega) ?_
    have : xt x = 2 * x := by unfold xt; rw [if_neg h2]
    rw [this] at hxt ⊢
    exact spec_l1Times.ev_l0 n _ _ _ hh (by omega) ho hxt
theorem spec_l1Times.ev {a b : Int} (ha : Byte a) (hb : Byte b) : Ev (fun k => spec_l1Times.f k a b) (mul a b) := by
 obtain ⟨m, hm, rfl⟩ := ha.nat
 obtain ⟨n, hn, rfl⟩ := hb.nat
 unfold spec_l1Times.f
 rw [wrap_id (i := (m : Int)) (by omega) (by omega), wrap_id (i := (n : Int)) (by omega) (by omega)]
 have h := spec_l1Times.ev_l0 8 0 m n hn (Nat.le_refl _) (by decide) hm
 exact ev_eq h (by unfold Gf.mul gm; simp)

theorem spec_l6Plus.ev_l {a b : ByteArray} {f : Int} (hf : Byte f) (h : a.size ≤ b.size) : ∀ n, n ≤ a.size → Ev (fun k => spec_l6Plus.l k a f b n) ((addV (bytesOf a) (scale f (bytesOf b))).take n)
 | 0, _ => ev_now rfl
 | n + 1, hn => by
  have hz : (addV (bytesOf a) (scale f (bytesOf b))).length = a.size := by rw [addV_length, scale_length, bytesOf_length, bytesOf_length]; omega
  show Ev (fun k => (spec_l6Plus.l k a f b n).bind _) _
  refine ev_bind (spec_l6Plus.ev_l hf h n (by omega)) (ev_bind (spec_l1Times.ev hf (bt_byte b _)) (ev_now ?_))
  rw [List.take_succ_eq_append_getElem (by omega), xor_u8 (bt_byte a _) (Byte.mul hf _), bt_getD, bt_getD]
  congr 2
  have e1 : (bytesOf a).getD n 0 = (bytesOf a)[n]'(by rw [bytesOf_length]; omega) := by rw [List.getD_eq_getElem?_getD, List.getElem?_eq_getElem (by rw [bytesOf_length]; omega)]; rfl
  have e2 : (bytesOf b).getD n 0 = (bytesOf b)[n]'(by rw [bytesOf_length]; omega) := by rw [List.getD_eq_getElem?_getD, List.getElem?_eq_getElem (by rw [bytesOf_length]; omega)]; rfl
  rw [e1, e2]
  simp [addV, scale]
theorem spec_l6Plus.ev {a b : ByteArray} {f : Int} (hf : Byte f) (h : a.size ≤ b.size) (hs : a.size ≤ 140737488355328) : Ev (fun k => spec_l6Plus.f k a f b) (strOfNums (addV (bytesOf a) (scale f (bytesOf b)))) := by
 unfold spec_l6Plus.f
 refine ev_pos ⟨hs, h⟩ (ev_bind (spec_l6Plus.ev_l hf h a.size (Nat.le_refl _)) (ev_now ?_))
 rw [List.take_of_length_le (by rw [addV_length, bytesOf_length]; omega)]

theorem spec_l1Power.ev_l0 (a : Int) (ha : Byte a) : ∀ (n m : Nat), n < 4611686018427387904 → Ev (fun k => spec_l1Power.l0 k a (n : Int) (pow a m)) (pow a (m + n))
 | 0, m, _ => by
  refine Ev.step (fun k => spec_l1Power.l0.eq_2 _ _ _ k) ?_
  exact ev_neg (by omega) (ev_now rfl)
 | n + 1, m, hn => by
  refine Ev.step (fun k => spec_l1Power.l0.eq_2 _ _ _ k) ?_
  refine ev_pos (by omega) ?_
  refine ev_bind (spec_l1Times.ev (Byte.pow ha m) ha) ?_
  have e : wrap64 (((n + 1 : Nat) : Int) - 1) = (n : Int) := by unfold wrap64; omega
  rw [e, ← pow_succ]
  refine ev_eq (spec_l1Power.ev_l0 a ha n (m + 1) (by omega)) ?_
  rw [Nat.add_right_comm, Nat.add_assoc]
theorem spec_l1Power.ev {a : Int} (ha : Byte a) (n : Nat) (hn : n < 4611686018427387904) : Ev (fun k => spec_l1Power.f k a (n : Int)) (pow a n) := by
 unfold spec_l1Power.f
 have := spec_l1Power.ev_l0 a ha n 0 hn
 rw [pow_zero, Nat.zero_add] at this
 exact this

theorem spec_MergeStripes.ev_l0 (D P E Q : List ByteArray) (h : P.length = Q.length) (hs : ∀ j, j < P.length → (txt P j).size = (txt Q j).size ∧ (txt P j).size ≤ 40) (hD : D.length ≤ 1048576) (hl : P.length ≤ 1048576) (N : List ByteArray) {Z : List ByteArray × List ByteArray × Bool}
  (K : Ev (fun k => (spec_GoodStripe.f k N (mergeP D P Q)).bind fun t => if t = true then some (N, mergeP D P Q, true) else some ([], [], false)) Z) : ∀ (d i : Nat), i + d = P.length →
  Ev (fun k => spec_MergeStripes.l0 k P (P.length : Int) (i : Int) D P E Q N ((mergeP D P Q).take i)) Z
 | 0, i, hi => by
  have hz : (mergeP D P Q).length = P.length := genT_length _ _
  refine Ev.step (fun k => spec_MergeStripes.l0.eq_2 _ _ _ _ _ _ _ _ _ k) ?_
  refine ev_neg (by omega) ?_
  rw [List.take_of_length_le (by omega)]
  exact K
 | d + 1, i, hi => by
  have hz : (mergeP D P Q).length = P.length := genT_length _ _
  have hsi := hs i (by omega)
  refine Ev.step (fun k => spec_MergeStripes.l0.eq_2 _ _ _ _ _ _ _ _ _ k) ?_
  simp only [rdOf_nat]
  refine ev_pos (by omega) (ev_pos (by omega) (ev_pos (by omega) ?_))
  refine ev_bind (spec_l1Power.ev byte3 i (by omega)) (ev_bind (spec_l1Power.ev (Byte.pow byte3 i) D.length (by omega)) (ev_pos (by omega) ?_))
  refine ev_bind (spec_l6Plus.ev (Byte.pow (Byte.pow byte3 i) _) (by omega) (by omega)) (ev_pos (by rw [List.length_take]; omega) ?_)
  rw [inc (by omega), show strOfNums (addV (bytesOf (txt P i)) (scale (pow (pow 3 i) D.length) (bytesOf (txt Q i)))) = (fun i => plusT (txt P i) (parAt i D.length) (txt Q i)) i from rfl, show (mergeP D P Q).take i ++ [(fun i => plusT (txt P i) (parAt i D.length) (txt Q i)) i] = (mergeP D P Q).take (i + 1) from (genT_succ (by omega)).symm]
  exact spec_MergeStripes.ev_l0 D P E Q h hs hD hl N K d (i + 1) (by omega)
theorem spec_MergeStripes.ev {D P E Q : List ByteArray} (hD : textsLe 1048576 D) (hP : textsLe 1048576 P) (hE : textsLe 1048576 E) (hQ : textsLe 1048576 Q) : Ev (fun k => spec_MergeStripes.f k D P E Q) (mergeVal D P E Q) := by
 unfold spec_MergeStripes.f
 have hno : ∀ c : Prop, [Decidable c] → ¬ c → Ev (fun k => spec_MergeStripes.j0 k true D P E Q) (if c then (D ++ E, mergeP D P Q, true) else ([], [], false)) := fun c _ hc => by
  refine Ev.step (fun k => spec_MergeStripes.j0.eq_2 _ _ _ _ _ k) ?_
  exact ev_pos rfl (ev_now (if_neg hc).symm)
 refine ev_bind (spec_GoodStripe.ev hD hP) ?_
 by_cases c1 : goodStripe D P = true
 ·refine ev_pos c1 (ev_bind (spec_GoodStripe.ev hE hQ) ?_)
  by_cases c2 : goodStripe E Q = true
  ·obtain ⟨a1, a2, a3, a4⟩ := goodStripe_iff c1
   obtain ⟨b1, b2, b3, b4⟩ := goodStripe_iff c2
   refine ev_pos c2 ?_
   by_cases c4 : P.length = Q.length
   ·refine ev_pos (by omega) (ev_pos (by omega) (ev_pos (by omega) ?_))
    simp only [rdOf_zero]
    by_cases c5 : (txt D 0).size = (txt E 0).size
    ·have ca := alike_iff.2 ⟨c1, c2, c4, c5⟩
     rw [show (((txt D 0).size : Int) != ((txt E 0).size : Int)) = false by rw [c5]; simp]
     refine Ev.step (fun k => spec_MergeStripes.j0.eq_2 _ _ _ _ _ k) ?_
     refine ev_neg (by simp) ?_
     simp only [Option.bind_some, List.nil_append]
     have h1 := hD.1
     have h2 := hE.1
     refine ev_pos (by simp; omega) (ev_pos (by omega) ?_)
     refine spec_MergeStripes.ev_l0 D P E Q c4 (fun j hj => by have := a4 j hj; have := b4 j (by omega); omega) (by omega) (by omega) (D ++ E) ?_ P.length 0 (by omega)
     have hgl : (mergeP D P Q).length = P.length := genT_length _ _
     have hg : Ev (fun k => spec_GoodStripe.f k (D ++ E) (mergeP D P Q)) (goodStripe (D ++ E) (mergeP D P Q)) := by
      refine spec_GoodStripe.ev ⟨by rw [List.length_append]; omega, fun s hs => ?_⟩ ⟨by rw [hgl]; omega, fun s hs => ?_⟩
      ·rcases List.mem_append.1 hs with h | h
       ·exact hD.2 s h
       ·exact hE.2 s h
      ·obtain ⟨j, hj, rfl⟩ := List.getElem_of_mem hs
       have e := txt_get hj
       rw [← e]
       unfold mergeP
       rw [genT_get (by omega), plusT_size]
       have := (hP.txt j)
       omega
     rw [merge_good ca] at hg
     refine ev_bind hg ?_
     unfold mergeVal
     by_cases c6 : D.length + E.length ≤ 16
     ·refine ev_pos (decide_eq_true c6) ?_
      rw [if_pos ⟨ca, c6⟩]; exact ev_now rfl
     ·refine ev_neg (by rw [decide_eq_false c6]; simp) ?_
      rw [if_neg (fun z => c6 z.2)]; exact ev_now rfl
    ·rw [show (((txt D 0).size : Int) != ((txt E 0).size : Int)) = true from bne_iff_ne.2 (by omega)]
     exact hno _ (fun z => c5 (alike_iff.1 z.1).2.2.2)
   ·exact ev_neg (by omega) (hno _ (fun z => c4 (alike_iff.1 z.1).2.2.1))
  ·exact ev_neg c2 (hno _ (fun z => c2 (alike_iff.1 z.1).2.1))
 ·exact ev_neg c1 (hno _ (fun z => c1 (alike_iff.1 z.1).1))

theorem slices_Clone_string_string.ev {l : List ByteArray} (h : l.length < 8796093022208) : slices_Clone_string_string.f l = some l := by
 unfold slices_Clone_string_string.f
 simp only [Option.bind_some]
 rw [if_pos (by simpa using h), List.nil_append]

theorem impl_within.ev (a b c : Int) : impl_within.f a b c = some (decide (b ≤ a ∧ a ≤ c)) := by
 unfold impl_within.f
 by_cases h : a ≥ b
 ·rw [if_pos h]; simp [h]
 ·rw [if_neg h]; simp; omega

theorem impl_areEqual.ev {l : List ByteArray} (h : textsLe 140737488355328 l) : impl_areEqual.f l = some (textsOk l) := by
 unfold impl_areEqual.f
 exact if_pos (show l.length ≤ 140737488355328 ∧ ∀ s ∈ l, s.size ≤ 140737488355328 from h)

theorem impl_GoodStripe.ev {D P : List ByteArray} (hD : textsLe 1048576 D) (hP : textsLe 1048576 P) : impl_GoodStripe.f D P = some (goodStripe D P) := by
 unfold impl_GoodStripe.f goodStripe
 have h1 := hD.1
 have h2 := hP.1
 have ht : textsLe 140737488355328 (D ++ P) := ⟨by simp; omega, fun s hs => by have := (hD.append hP).2 s hs; omega⟩
 simp only [impl_within.ev, Option.bind_some, decide_eq_true_eq]
 by_cases c1 : 1 ≤ (D.length : Int) ∧ (D.length : Int) ≤ 16
 ·rw [if_pos c1]
  by_cases c2 : 1 ≤ (P.length : Int) ∧ (P.length : Int) ≤ 4
  ·rw [if_pos c2, slices_Clone_string_string.ev (by omega)]
   simp only [Option.bind_some]
   rw [if_pos (by omega), impl_areEqual.ev ht, decide_eq_true ⟨c1, c2⟩, Bool.true_and]
   rfl
  ·rw [if_neg c2, decide_eq_false (fun z => c2 z.2), Bool.false_and]
 ·rw [if_neg c1, decide_eq_false (fun z => c1 z.1), Bool.false_and]

theorem impl_areAlike.ev {D P E Q : List ByteArray} (hD : textsLe 1048576 D) (hP : textsLe 1048576 P) (hE : textsLe 1048576 E) (hQ : textsLe 1048576 Q) : impl_areAlike.f D P E Q = some (alike D P E Q) := by
 unfold impl_areAlike.f alike
 rw [impl_GoodStripe.ev hD hP, impl_GoodStripe.ev hE hQ]
 simp only [Option.bind_some]
 by_cases c1 : goodStripe D P = true
 ·rw [if_pos c1, c1, Bool.true_and]
  by_cases c2 : goodStripe E Q = true
  ·obtain ⟨a1, _⟩ := goodStripe_iff c1
   obtain ⟨b1, _⟩ := goodStripe_iff c2
   rw [if_pos c2, c2, Bool.true_and]
   by_cases c3 : P.length = Q.length
   ·rw [if_pos (by omega), if_pos (by omega), if_pos (by omega), rdOf_zero, rdOf_zero, decide_eq_true c3, Bool.true_and]
    by_cases c5 : (txt D 0).size = (txt E 0).size
    ·rw [decide_eq_true c5, c5]; simp
    ·rw [decide_eq_false c5, show (((txt D 0).size : Int) == ((txt E 0).size : Int)) = false from beq_eq_false_iff_ne.2 (by omega)]
   ·rw [if_neg (by omega), decide_eq_false c3, Bool.false_and]
  ·rw [if_neg c2, Bool.eq_false_iff.mpr c2, Bool.false_and]
 ·rw [if_neg c1, Bool.eq_false_iff.mpr c1, Bool.false_and]

theorem impl_added.ev_l0 (v w : List Int) (hv : Bytes v) (hw : Bytes w) (hl : v.length = w.length) (hs : v.length < 140737488355328) : ∀ (n i : Nat) (o : List Int), i + n = v.length → o = (addV v w).take i →
  Ev (fun k => impl_added.l0 k w o v (v.length : Int) (i : Int)) (addV v w)
 | 0, i, o, hi, ho => by
  refine Ev.step (fun k => impl_added.l0.eq_2 _ _ _ _ _ k) ?_
  refine ev_neg (by omega) (ev_now ?_)
  subst ho
  rw [List.take_of_length_le (by rw [addV_length]; omega)]
 | n + 1, i, o, hi, ho => by
  have hz := addV_length v w
  have hlen : o.length = i := by rw [ho, List.length_take, hz]; omega
  refine Ev.step (fun k => impl_added.l0.eq_2 _ _ _ _ _ k) ?_
  refine ev_pos (by omega) (ev_pos (by omega) (ev_pos (by omega) (ev_pos (by omega) (ev_pos (by omega) ?_))))
  rw [inc (by omega), xor_u8 (bytes_rd hv (by omega)) (bytes_rd hw (by omega)), rd_get (by omega), rd_get (by omega)]
  refine impl_added.ev_l0 v w hv hw hl hs n (i + 1) _ (by omega) ?_
  rw [List.take_succ_eq_append_getElem (by omega), ← ho]
  simp [addV]
theorem impl_added.ev {v w : List Int} (hv : Bytes v) (hw : Bytes w) (hl : v.length = w.length) (hs : v.length < 140737488355328) : Ev (fun k => impl_added.f k v w) (addV v w) := by
 unfold impl_added.f
 exact impl_added.ev_l0 v w hv hw hl hs v.length 0 [] (by omega) rfl

theorem impl_sumOf.ev {s t : ByteArray} (hs : s.size < 140737488355328) (h : s.size = t.size) : Ev (fun k => impl_sumOf.f k s t) (strOfNums (addV (bytesOf s) (bytesOf t))) := by
 unfold impl_sumOf.f
 exact ev_pos (by omega) (ev_bind (impl_added.ev (bytes_bytesOf s) (bytes_bytesOf t) (by rw [bytesOf_length, bytesOf_length]; exact h) (by rw [bytesOf_length]; exact hs)) (ev_now rfl))

theorem impl_scaled.ev_l0 (a : Int) (ha : Byte a) (v : List Int) (hv : Bytes v) (hs : v.length < 140737488355328) : ∀ (n i : Nat) (o : List Int), i + n = v.length → o = (scale a v).take i →
  Ev (fun k => impl_scaled.l0 k a o v (v.length : Int) (i : Int)) (scale a v)
 | 0, i, o, hi, ho => by
  refine Ev.step (fun k => impl_scaled.l0.eq_2 _ _ _ _ _ k) ?_
  refine ev_neg (by omega) (ev_now ?_)
  subst ho
  rw [List.take_of_length_le (by rw [scale_length]; omega)]
 | n + 1, i, o, hi, ho => by
  have hz := scale_length a v
  have hlen : o.length = i := by rw [ho, List.length_take, hz]; omega
  refine Ev.step (fun k => impl_scaled.l0.eq_2 _ _ _ _ _ k) ?_
  refine ev_pos (by omega) (ev_pos (by omega) (ev_pos (by omega) ?_))
  refine ev_bind (impl_Times.ev ha (bytes_rd hv (by omega))) ?_
  refine ev_pos (by omega) ?_
  rw [inc (by omega), rd_get (by omega)]
  refine impl_scaled.ev_l0 a ha v hv hs n (i + 1) _ (by omega) ?_
  rw [List.take_succ_eq_append_getElem (by omega), ← ho]
  simp [scale]
theorem impl_scaled.ev {a : Int} (ha : Byte a) {v : List Int} (hv : Bytes v) (hs : v.length < 140737488355328) : Ev (fun k => impl_scaled.f k a v) (scale a v) := by
 unfold impl_scaled.f
 exact impl_scaled.ev_l0 a ha v hv hs v.length 0 [] (by omega) rfl

theorem impl_timesOf.ev {a : Int} (ha : Byte a) {s : ByteArray} (hs : s.size < 140737488355328) : Ev (fun k => impl_timesOf.f k a s) (strOfNums (scale a (bytesOf s))) := by
 unfold impl_timesOf.f
 exact ev_pos (by omega) (ev_bind (impl_scaled.ev ha (bytes_bytesOf s) (by rw [bytesOf_length]; exact hs)) (ev_now rfl))

theorem impl_MergeStripes.ev_l0 (D P E Q : List ByteArray) (h : P.length = Q.length) (hs : ∀ j, j < P.length → (txt P j).size = (txt Q j).size ∧ (txt P j).size ≤ 40) (hD : D.length ≤ 1048576) (hl : P.length ≤ 1048576) (N : List ByteArray) : ∀ (d i : Nat), i + d = P.length →
  Ev (fun k => impl_MergeStripes.l0 k P (P.length : Int) (i : Int) D P E Q N ((mergeP D P Q).take i)) (N, mergeP D P Q, true)
 | 0, i, hi => by
  have hz : (mergeP D P Q).length = P.length := genT_length _ _
  refine Ev.step (fun k => impl_MergeStripes.l0.eq_2 _ _ _ _ _ _ _ _ _ k) ?_
  refine ev_neg (by omega) (ev_now ?_)
  rw [List.take_of_length_le (by omega)]
 | d + 1, i, hi => by
  have hz : (mergeP D P Q).length = P.length := genT_length _ _
  have hsi := hs i (by omega)
  have hb := Byte.pow (Byte.pow byte3 i) D.length
  refine Ev.step (fun k => impl_MergeStripes.l0.eq_2 _ _ _ _ _ _ _ _ _ k) ?_
  simp only [rdOf_nat]
  refine ev_pos (by omega) (ev_pos (by omega) (ev_pos (by omega) ?_))
  refine ev_bind (impl_power.ev byte3 i (by omega)) (ev_bind (impl_power.ev (Byte.pow byte3 i) D.length (by omega)) (ev_pos (by omega) ?_))
  refine ev_bind (impl_timesOf.ev hb (by omega)) (ev_bind (impl_sumOf.ev (by omega) (by rw [strOfNums_size, scale_length, bytesOf_length]; omega)) (ev_pos (by rw [List.length_take]; omega) ?_))
  rw [bytesOf_str (scale_bytes hb _), inc (by omega), show strOfNums (addV (bytesOf (txt P i)) (scale (pow (pow 3 i) D.length) (bytesOf (txt Q i)))) = (fun i => plusT (txt P i) (parAt i D.length) (txt Q i)) i from rfl, show (mergeP D P Q).take i ++ [(fun i => plusT (txt P i) (parAt i D.length) (txt Q i)) i] = (mergeP D P Q).take (i + 1) from (genT_succ (by omega)).symm]
  exact impl_MergeStripes.ev_l0 D P E Q h hs hD hl N d (i + 1) (by omega)
theorem impl_MergeStripes.ev {D P E Q : List ByteArray} (hD : textsLe 1048576 D) (hP : textsLe 1048576 P) (hE : textsLe 1048576 E) (hQ : textsLe 1048576 Q) : Ev (fun k => impl_MergeStripes.f k D P E Q) (mergeVal D P E Q) := by
 unfold impl_MergeStripes.f mergeVal
 have hno : ∀ c : Prop, [Decidable c] → ¬ c → Ev (fun k => impl_MergeStripes.j0 k true D P E Q) (if c then (D ++ E, mergeP D P Q, true) else ([], [], false)) := fun c _ hc => by
  refine Ev.step (fun k => impl_MergeStripes.j0.eq_2 _ _ _ _ _ k) ?_
  exact ev_pos rfl (ev_now (if_neg hc).symm)
 have h1 := hD.1
 have h2 := hE.1
 rw [impl_areAlike.ev hD hP hE hQ]
 simp only [Option.bind_some]
 by_cases c : alike D P E Q = true
 ·have hc := alike_iff.1 c
  obtain ⟨a1, a2, a3, a4⟩ := goodStripe_iff hc.1
  obtain ⟨b1, b2, b3, b4⟩ := goodStripe_iff hc.2.1
  refine ev_pos c ?_
  rw [wrap_id (i := (D.length : Int) + (E.length : Int)) (by omega) (by omega)]
  by_cases c3 : D.length + E.length ≤ 16
  ·rw [if_pos ⟨c, c3⟩, decide_eq_false (by omega)]
   refine Ev.step (fun k => impl_MergeStripes.j0.eq_2 _ _ _ _ _ k) ?_
   refine ev_neg (by simp) ?_
   rw [slices_Clone_string_string.ev (by omega)]
   simp only [Option.bind_some]
   refine ev_pos (by omega) ?_
   exact impl_MergeStripes.ev_l0 D P E Q hc.2.2.1 (fun j hj => by have := a4 j hj; have := b4 j (by omega); omega) (by omega) (by omega) (D ++ E) P.length 0 (by omega)
  ·rw [decide_eq_true (by omega)]
   exact hno _ (fun z => c3 z.2)
 ·exact ev_neg c (hno _ (fun z => c z.1))

theorem FnExactMergeStripes : ∀ (D P E Q : List ByteArray), ((D.length ≤ maxLen ∧ ∀ x ∈ D, ByteArray.size x ≤ maxLen) ∧ (P.length ≤ maxLen ∧ ∀ x ∈ P, ByteArray.size x ≤ maxLen)) → ((E.length ≤ maxLen ∧ ∀ x ∈ E, ByteArray.size x ≤ maxLen) ∧ (Q.length ≤ maxLen ∧ ∀ x ∈ Q, ByteArray.size x ≤ maxLen)) → laws_FnExactMergeStripes.Facts D P E Q := by
 intro D P E Q hw hv
 have hsz := laws_szStripe.ev D P hw.1 hw.2 1048576 (by decide) (by decide)
 by_cases h : (D.length : Int) + (totT D : Int) + ((P.length : Int) + (totT P : Int)) ≤ 1048576
 ·rw [if_pos h] at hsz
  have hD := textsLe_of (show (D.length : Int) + (totT D : Int) ≤ 1048576 by omega)
  have hP := textsLe_of (show (P.length : Int) + (totT P : Int) ≤ 1048576 by omega)
  have hsz2 := laws_szStripe.ev E Q hv.1 hv.2 (1048576 - ((D.length : Int) + (totT D : Int)) - ((P.length : Int) + (totT P : Int))) (by omega) (by omega)
  by_cases h2 : (E.length : Int) + (totT E : Int) + ((Q.length : Int) + (totT Q : Int)) ≤ 1048576 - ((D.length : Int) + (totT D : Int)) - ((P.length : Int) + (totT P : Int))
  ·rw [if_pos h2] at hsz2
   have hE := textsLe_of (show (E.length : Int) + (totT E : Int) ≤ 1048576 by omega)
   have hQ := textsLe_of (show (Q.length : Int) + (totT Q : Int) ≤ 1048576 by omega)
   have hz := mergeVal_len D P E Q
   have h01 := hD.1
   have h02 := hP.1
   have h03 := hE.1
   have h04 := hQ.1
   refine .inr (.inr ⟨_, _, (mergeVal D P E Q).1, (mergeVal D P E Q).2.1, (mergeVal D P E Q).2.2, D, P, E, Q, Ev.rounds hsz, by omega, Ev.rounds hsz2, by omega, Ev.rounds (laws_toStripe.ev D P (by omega) (by omega)), Ev.rounds (laws_toStripe.ev E Q (by omega) (by omega)), ?_⟩)
   have hs := spec_MergeStripes.ev hD hP hE hQ
   have hi := impl_MergeStripes.ev hD hP hE hQ
   generalize mergeVal D P E Q = v at *
   obtain ⟨R, S, c⟩ := v
   dsimp only at *
   exact ⟨Ev.rounds hs, Ev.rounds hi, Ev.rounds (laws_eqStripe.ev R S (by omega) (by omega)), Ev.rounds (laws_eqStripe.ev D P (by omega) (by omega)), Ev.rounds (laws_eqStripe.ev E Q (by omega) (by omega)), Ev.rounds (laws_heldStripe.ev 1 R.length S.length (by decide) (by omega)),
    fun l m a h1 h2 => Ev.rounds (laws_markStripe.ev l m a h1 h2), by omega, by omega, by omega, by omega, by omega, by omega⟩
  ·rw [if_neg h2] at hsz2
   exact .inr (.inl ⟨_, _, Ev.rounds hsz, by omega, Ev.rounds hsz2, by decide⟩)
 ·rw [if_neg h] at hsz
  exact .inl ⟨_, Ev.rounds hsz, by decide⟩

end Go.Proofs.Ytlmcobjpmonkfaa.Pure
-- HALVED
