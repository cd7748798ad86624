/- The given program's AddShares returns what the reference's AddShares returns, for all shares, leaves them as they were, and what it returns is its own; there is no condition. -/
import Derived.Test.YtelkciakdhiicaaPFnExactAddSharesx
import Derived.Test.YtelkciakdhiicaaKit
import Derived.Test.YtelkciakdhiicaaTxt
namespace Go.Proofs.Ytelkciakdhiicaa.Pure
open Go.RowKit Go.Proofs.Ytelkciakdhiicaa.PFnExactAddShares Go.Proofs.YtelkciakdhiicaaW.PrintWords Go.Proofs.YtelkciakdhiicaaW.PrintLast Go.Proofs.Ytelkciakdhiicaa.Gf Go.Proofs.Ytelkciakdhiicaa.Kit Go.Proofs.Ytelkciakdhiicaa.KitW
set_option linter.unusedVariables false
set_option linter.unusedSimpArgs false

theorem impl_Times.ev_l0 (b : Nat) (hb : b < 256) : ∀ (n i o x : Nat), i + n = 8 → o < 256 → x < 256 →
    Ev (fun k => impl_Times.l0 k (b : Int) (o : Int) (i : Int) (x : Int)) ((T n o x (b / 2 ^ i) : Nat) : Int)
  | 0, i, o, x, hi, ho, hx => by
    refine Ev.step (fun k => impl_Times.l0.eq_2 _ _ _ _ k) ?_
    refine ev_neg (by omega) (ev_now ?_)
    simp only [T]
    omega
  | n + 1, i, o, x, hi, ho, hx => by
    refine Ev.step (fun k => impl_Times.l0.eq_2 _ _ _ _ k) ?_
    refine ev_pos (by omega) (ev_pos (by omega) ?_)
    have e1 : shr .u8 (b : Int) (i : Int) = ((b / 2 ^ i : Nat) : Int) := by
      unfold shr
      rw [Nat.min_eq_left (by simp only [IntKind.bits]; omega)]
      simp
    have hd : b / 2 ^ i < 256 := Nat.lt_of_le_of_lt (Nat.div_le_self _ _) hb
    have e2 : wrap64 ((x : Int) * 2) = ((2 * x : Nat) : Int) := by rw [wrap_id (by omega) (by omega)]; omega
    have e3 : wrap64 ((i : Int) + 1) = ((i + 1 : Nat) : Int) := by rw [wrap_id (by omega) (by omega)]; omega
    rw [e1, and1_u8 hd, e2, e3]
    have e4 : Go.bits .xor .i64 (o : Int) (x : Int) = ((o ^^^ x : Nat) : Int) := xor_i64 (by omega) (by omega)
    have e5 : Go.bits .xor .i64 ((2 * x : Nat) : Int) 283 = ((2 * x ^^^ 283 : Nat) : Int) := xor_i64 (m := 2 * x) (n := 283) (by omega) (by omega)
    have e6 : b / 2 ^ i / 2 = b / 2 ^ (i + 1) := by rw [Nat.div_div_eq_div_mul, Nat.pow_succ]
    rw [e4, e5]
    have hT : T (n + 1) o x (b / 2 ^ i) = T n (if b / 2 ^ i % 2 = 1 then o ^^^ x else o) (xt x) (b / 2 ^ (i + 1)) := by rw [T, e6]
    rw [hT]
    have hxt := xt_lt hx
    have hox := xor_lt ho hx
    by_cases h1 : b / 2 ^ i % 2 = 1
    · rw [if_pos h1]
      refine ev_pos (by omega) ?_
      by_cases h2 : 2 * x > 255
      · refine ev_pos (by omega) ?_
        have : xt x = 2 * x ^^^ 283 := by unfold xt; rw [if_pos h2]
        rw [this] at hxt ⊢
        exact impl_Times.ev_l0 b hb n (i + 1) _ _ (by omega) hox hxt
      · refine ev_neg (by omega) ?_
        have : xt x = 2 * x := by unfold xt; rw [if_neg h2]
        rw [this] at hxt ⊢
        exact impl_Times.ev_l0 b hb n (i + 1) _ _ (by omega) hox hxt
    · rw [if_neg h1]
      refine ev_neg (by omega) ?_
      by_cases h2 : 2 * x > 255
      · refine ev_pos (by omega) ?_
        have : xt x = 2 * x ^^^ 283 := by unfold xt; rw [if_pos h2]
        rw [this] at hxt ⊢
        exact impl_Times.ev_l0 b hb n (i + 1) _ _ (by omega) ho hxt
      · refine ev_neg (by omega) ?_
        have : xt x = 2 * x := by unfold xt; rw [if_neg h2]
        rw [this] at hxt ⊢
        exact impl_Times.ev_l0 b hb n (i + 1) _ _ (by omega) ho hxt
theorem impl_Times.ev {a b : Int} (ha : Byte a) (hb : Byte b) : Ev (fun k => impl_Times.f k a b) (mul a b) := by
  obtain ⟨m, hm, rfl⟩ := ha.nat
  obtain ⟨n, hn, rfl⟩ := hb.nat
  unfold impl_Times.f
  rw [wrap_id (by omega) (by omega)]
  have h := impl_Times.ev_l0 n hn 8 0 0 m rfl (by decide) hm
  exact ev_eq h (by unfold Gf.mul gm; simp)

theorem impl_power.ev_l0 : ∀ (N n : Nat) (a o : Int), n ≤ N → n < 4294967296 → Byte a → Byte o → Ev (fun k => impl_power.l0 k a (n : Int) o) (mul o (pow a n)) := by
  intro N
  induction N with
  | zero =>
    intro n a o hN hn ha ho
    obtain rfl : n = 0 := by omega
    refine Ev.step (fun k => impl_power.l0.eq_2 _ _ _ k) ?_
    exact ev_neg (by omega) (ev_now (by rw [pow_zero, mul_one ho]))
  | succ N ih =>
    intro n a o hN hn ha ho
    refine Ev.step (fun k => impl_power.l0.eq_2 _ _ _ k) ?_
    by_cases h0 : n = 0
    · subst h0
      exact ev_neg (by omega) (ev_now (by rw [pow_zero, mul_one ho]))
    refine ev_pos (by omega) ?_
    have e : ((n : Int) / 2) = ((n / 2 : Nat) : Int) := by omega
    have haa := Byte.mul ha a
    have hsq : pow (mul a a) (n / 2) = pow a (2 * (n / 2)) := by rw [pow_mul ha, pow_two ha]
    rw [and1_i64 hn, e]
    by_cases h1 : n % 2 = 1
    · refine ev_pos (by omega) ?_
      refine ev_bind (impl_Times.ev ho ha) (ev_bind (impl_Times.ev ha ha) ?_)
      refine ev_eq (ih (n / 2) _ _ (by omega) (by omega) haa (Byte.mul ho a)) ?_
      have hn2 : n = 1 + 2 * (n / 2) := by omega
      rw [hsq, mul_assoc ho ha (Byte.pow ha _)]
      conv => rhs; rw [hn2, pow_add ha, pow_one ha]
    · refine ev_neg (by omega) ?_
      refine ev_bind (impl_Times.ev ha ha) ?_
      refine ev_eq (ih (n / 2) _ _ (by omega) (by omega) haa ho) ?_
      have hn2 : n = 2 * (n / 2) := by omega
      rw [hsq, ← hn2]
theorem impl_power.ev {a : Int} (ha : Byte a) (n : Nat) (hn : n < 4294967296) : Ev (fun k => impl_power.f k a (n : Int)) (pow a n) := by
  unfold impl_power.f
  refine ev_eq (impl_power.ev_l0 n n a 1 (Nat.le_refl _) hn ha .one) ?_
  exact one_mul (Byte.pow ha n)

theorem laws_szShareS.ev (l : List (S109)) (hl : l.length ≤ maxLen) : laws_szShareS.f l 1048576 = some (if l.length ≤ 1048576 then 1048576 - (l.length : Int) else -1) := by
  unfold laws_szShareS.f
  unfold maxLen at hl
  have e : wrap64 (1048576 - (l.length : Int)) = 1048576 - (l.length : Int) := by unfold wrap64; omega
  rw [e]
  by_cases h : l.length ≤ 1048576
  · rw [if_neg (by omega), if_pos h]
  · rw [if_pos (by omega), if_neg h]

theorem spec_l7Shares.X_eq (l : List (S107)) (i : Nat) : (rd_T107 l (i : Int)).f0 = (l.getD i z107).f0 := by unfold rd_T107; simp
theorem spec_l7Shares.ev_l0 (l : List (S107)) (hl : l.length < 4611686018427387904) : ∀ (n i : Nat), i + n = l.length → Ev (fun k => spec_l7Shares.l0 k l l (l.length : Int) (i : Int)) (sharesOk (fun j => (l.getD j z107).f0) l.length i n)
  | 0, i, hi => by
    refine Ev.step (fun k => spec_l7Shares.l0.eq_2 _ _ _ _ k) ?_
    refine ev_neg (by omega) (ev_now ?_)
    simp only [sharesOk]
    rw [decide_eq_decide]
    omega
  | n + 1, i, hi => by
    refine Ev.step (fun k => spec_l7Shares.l0.eq_2 _ _ _ _ k) ?_
    refine ev_pos (by omega) (ev_pos (by omega) (ev_pos (by omega) ?_))
    have e1 : wrap64 ((i : Int) - 1) = (i : Int) - 1 := dec (by omega)
    rw [spec_l7Shares.X_eq, inc (by omega), e1]
    have ih := spec_l7Shares.ev_l0 l hl n (i + 1) (by omega)
    simp only [sharesOk]
    by_cases h0 : (l.getD i z107).f0 = 0
    · exact ev_pos h0 (ev_now (by rw [if_pos (Or.inl h0)]))
    · refine ev_neg h0 ?_
      by_cases hi0 : 0 < i
      · refine ev_pos (by omega) (ev_pos (by omega) (ev_pos (by omega) ?_))
        have e2 : ((i : Int) - 1) = ((i - 1 : Nat) : Int) := by omega
        rw [e2, spec_l7Shares.X_eq]
        by_cases h2 : (l.getD i z107).f0 ≤ (l.getD (i - 1) z107).f0
        · exact ev_pos h2 (ev_now (by rw [if_pos (Or.inr ⟨hi0, h2⟩)]))
        · refine ev_neg h2 (ev_eq ih ?_)
          rw [if_neg (by rintro (h | ⟨_, h⟩); exact h0 h; exact h2 h)]
      · refine ev_neg (by omega) (ev_eq ih ?_)
        rw [if_neg (by rintro (h | ⟨h, _⟩); exact h0 h; exact hi0 h)]
theorem spec_l7Shares.ev (l : List (S107)) (hl : l.length < 4611686018427387904) : Ev (fun k => spec_l7Shares.f k l) (sharesOk (fun j => (l.getD j z107).f0) l.length 0 l.length) := by
  unfold spec_l7Shares.f
  exact spec_l7Shares.ev_l0 l hl l.length 0 (by omega)

theorem rdSh (l : List (S107)) (i : Nat) : rd_T107 l (i : Int) = l.getD i z107 := by unfold rd_T107; simp
def addSh (l m : List (S107)) : List (S107) := (List.range l.length).map fun j => ⟨(l.getD j z107).f0, Go.bits .xor .u8 ((l.getD j z107).f1) ((m.getD j z107).f1)⟩
theorem addSh_length (l m : List (S107)) : (addSh l m).length = l.length := by simp [addSh]
theorem addSh_succ (l m : List (S107)) {i : Nat} (h : i < l.length) : (addSh l m).take i ++ [(⟨(l.getD i z107).f0, Go.bits .xor .u8 ((l.getD i z107).f1) ((m.getD i z107).f1)⟩ : S107)] = (addSh l m).take (i + 1) := by
  rw [List.take_succ_eq_append_getElem (by rw [addSh_length]; exact h)]
  simp [addSh]
def okSh (l : List (S107)) : Bool := sharesOk (fun j => (l.getD j z107).f0) l.length 0 l.length
def shVal (l m : List (S107)) : List (S107) × Bool := if okSh l = true ∧ okSh m = true ∧ l.length = m.length ∧ ∀ j, j < l.length → (m.getD j z107).f0 = (l.getD j z107).f0 then (addSh l m, true) else ([], false)
theorem shVal_len {l m : List (S107)} (h : l.length ≤ 1048576) : (shVal l m).1.length ≤ 1048576 := by
  unfold shVal
  split
  · show (addSh l m).length ≤ _
    rw [addSh_length]; exact h
  · simp
theorem spec_AddShares.ev_l0 (l m : List (S107)) (hl : l.length = m.length) (hn : l.length ≤ 1048576) : ∀ (n i : Nat), i + n = l.length →
    Ev (fun k => spec_AddShares.l0 k m ((addSh l m).take i) l (l.length : Int) (i : Int)) (if (∀ j, j < l.length → i ≤ j → (m.getD j z107).f0 = (l.getD j z107).f0) then (addSh l m, true) else ([], false))
  | 0, i, hi => by
    refine Ev.step (fun k => spec_AddShares.l0.eq_2 _ _ _ _ _ k) ?_
    refine ev_neg (by omega) (ev_now ?_)
    rw [if_pos (fun j h1 h2 => by omega), List.take_of_length_le (by rw [addSh_length]; omega)]
  | n + 1, i, hi => by
    refine Ev.step (fun k => spec_AddShares.l0.eq_2 _ _ _ _ _ k) ?_
    simp only [rdSh]
    refine ev_pos (by omega) (ev_pos (by omega) (ev_pos (by omega) (ev_pos (by omega) ?_)))
    by_cases h : (m.getD i z107).f0 = (l.getD i z107).f0
    · refine ev_pos h (ev_pos (by rw [List.length_take]; omega) ?_)
      rw [inc (by omega), addSh_succ _ _ (by omega)]
      refine ev_eq (spec_AddShares.ev_l0 l m hl hn n (i + 1) (by omega)) ?_
      by_cases c : ∀ j, j < l.length → i ≤ j → (m.getD j z107).f0 = (l.getD j z107).f0
      · rw [if_pos c, if_pos (fun j h1 h2 => c j h1 (by omega))]
      · rw [if_neg c, if_neg (fun z => c fun j h1 h2 => by
          rcases Nat.eq_or_lt_of_le h2 with e | e
          · exact e ▸ h
          · exact z j h1 e)]
    · refine ev_neg h (ev_now ?_)
      rw [if_neg (fun z => h (z i (by omega) (Nat.le_refl _)))]
theorem spec_AddShares.ev {l m : List (S107)} (hl : l.length ≤ 1048576) (hm : m.length ≤ 1048576) : Ev (fun k => spec_AddShares.f k l m) (shVal l m) := by
  unfold spec_AddShares.f shVal
  have hno : ∀ c : Prop, [Decidable c] → ¬ c → Ev (fun k => spec_AddShares.j0 k l m true) (if c then (addSh l m, true) else ([], false)) := fun c _ hc => by
    refine Ev.step (fun k => spec_AddShares.j0.eq_2 _ _ _ k) ?_
    exact ev_pos rfl (ev_now (if_neg hc).symm)
  refine ev_bind (spec_l7Shares.ev l (by omega)) ?_
  by_cases c1 : okSh l = true
  · refine ev_pos c1 (ev_bind (spec_l7Shares.ev m (by omega)) ?_)
    by_cases c2 : okSh m = true
    · refine ev_pos c2 ?_
      by_cases c3 : l.length = m.length
      · rw [show ((l.length : Int) != (m.length : Int)) = false by rw [c3]; simp]
        refine Ev.step (fun k => spec_AddShares.j0.eq_2 _ _ _ k) ?_
        refine ev_neg (by simp) ?_
        refine ev_eq (spec_AddShares.ev_l0 l m c3 hl l.length 0 (by omega)) ?_
        by_cases c : ∀ j, j < l.length → 0 ≤ j → (m.getD j z107).f0 = (l.getD j z107).f0
        · rw [if_pos c, if_pos ⟨c1, c2, c3, fun j h => c j h (Nat.zero_le _)⟩]
        · rw [if_neg c, if_neg (fun z => c fun j h _ => z.2.2.2 j h)]
      · rw [show ((l.length : Int) != (m.length : Int)) = true from bne_iff_ne.2 (by omega)]
        exact hno _ (fun z => c3 z.2.2.1)
    · exact ev_neg c2 (hno _ (fun z => c2 z.2.1))
  · exact ev_neg c1 (hno _ (fun z => c1 z.1))

theorem laws_toShare.ev (x y : Int) : laws_toShare.f x y = some (x, y) := rfl

def toSh (x : S109) : S107 := ⟨x.f0, x.f1⟩
theorem laws_toShareS.ev_l0 (l : List (S109)) (hl : l.length < 4611686018427387904) : ∀ (n i : Nat) (o : List (S107)), i + n = l.length → o.length = l.length → o.take i = (l.map toSh).take i →
    Ev (fun k => laws_toShareS.l0 k l o (i : Int)) (l.map toSh)
  | 0, i, o, hi, ho, ht => by
    refine Ev.step (fun k => laws_toShareS.l0.eq_2 _ _ _ k) ?_
    refine ev_neg (by omega) (ev_now ?_)
    rw [List.take_of_length_le (by omega), List.take_of_length_le (by simp; omega)] at ht
    exact ht
  | n + 1, i, o, hi, ho, ht => by
    refine Ev.step (fun k => laws_toShareS.l0.eq_2 _ _ _ k) ?_
    simp only [laws_toShare.ev, Option.bind_some]
    refine ev_pos (by omega) (ev_pos (by omega) (ev_pos (by omega) ?_))
    rw [inc (by omega), Int.toNat_natCast]
    refine laws_toShareS.ev_l0 l hl n (i + 1) _ (by omega) (by simpa using ho) ?_
    rw [List.take_succ_eq_append_getElem (by simp; omega), List.take_succ_eq_append_getElem (by simp; omega), ← ht]
    have e : rd_T109 l (i : Int) = l[i]'(by omega) := by unfold rd_T109; simp [List.getD, show i < l.length by omega]
    simp [e, toSh, List.take_set_of_le]
theorem laws_toShareS.ev (l : List (S109)) (hl : l.length ≤ 1048576) : Ev (fun k => laws_toShareS.f k l) (l.map toSh) := by
  unfold laws_toShareS.f
  refine ev_pos (by omega) (ev_pos (by omega) ?_)
  exact laws_toShareS.ev_l0 l (by omega) l.length 0 _ (by omega) (by simp) rfl

theorem impl_areShares.X_eq (l : List (S107)) (i : Nat) : (rd_T107 l (i : Int)).f0 = (l.getD i z107).f0 := by unfold rd_T107; simp
theorem impl_areShares.ev_l0 (l : List (S107)) (hl : l.length < 4611686018427387904) : ∀ (n i : Nat), i + n = l.length → Ev (fun k => impl_areShares.l0 k l l (l.length : Int) (i : Int)) (sharesOk (fun j => (l.getD j z107).f0) l.length i n)
  | 0, i, hi => by
    refine Ev.step (fun k => impl_areShares.l0.eq_2 _ _ _ _ k) ?_
    refine ev_neg (by omega) (ev_now ?_)
    simp only [sharesOk]
    rw [decide_eq_decide]
    omega
  | n + 1, i, hi => by
    refine Ev.step (fun k => impl_areShares.l0.eq_2 _ _ _ _ k) ?_
    refine ev_pos (by omega) (ev_pos (by omega) (ev_pos (by omega) ?_))
    have e1 : wrap64 ((i : Int) - 1) = (i : Int) - 1 := dec (by omega)
    rw [impl_areShares.X_eq, inc (by omega), e1]
    have ih := impl_areShares.ev_l0 l hl n (i + 1) (by omega)
    simp only [sharesOk]
    by_cases h0 : (l.getD i z107).f0 = 0
    · exact ev_pos h0 (ev_now (by rw [if_pos (Or.inl h0)]))
    · refine ev_neg h0 ?_
      by_cases hi0 : 0 < i
      · refine ev_pos (by omega) (ev_pos (by omega) (ev_pos (by omega) ?_))
        have e2 : ((i : Int) - 1) = ((i - 1 : Nat) : Int) := by omega
        rw [e2, impl_areShares.X_eq]
        by_cases h2 : (l.getD i z107).f0 ≤ (l.getD (i - 1) z107).f0
        · exact ev_pos h2 (ev_now (by rw [if_pos (Or.inr ⟨hi0, h2⟩)]))
        · refine ev_neg h2 (ev_eq ih ?_)
          rw [if_neg (by rintro (h | ⟨_, h⟩); exact h0 h; exact h2 h)]
      · refine ev_neg (by omega) (ev_eq ih ?_)
        rw [if_neg (by rintro (h | ⟨h, _⟩); exact h0 h; exact hi0 h)]
theorem impl_areShares.ev (l : List (S107)) (hl : l.length < 4611686018427387904) : Ev (fun k => impl_areShares.f k l) (sharesOk (fun j => (l.getD j z107).f0) l.length 0 l.length) := by
  unfold impl_areShares.f
  exact impl_areShares.ev_l0 l hl l.length 0 (by omega)

theorem shares_same.ev (x y z u : Int) : shares_same.f x y z u = some (x == z) := rfl

theorem shares_equal.ev_l0 (l m : List (S107)) (hl : l.length = m.length) (hn : l.length ≤ 1048576) : ∀ (n i : Nat), i + n = l.length →
    Ev (fun k => shares_equal.l0 k m l (l.length : Int) (i : Int)) (decide (∀ j, j < l.length → i ≤ j → (m.getD j z107).f0 = (l.getD j z107).f0))
  | 0, i, hi => by
    refine Ev.step (fun k => shares_equal.l0.eq_2 _ _ _ _ k) ?_
    refine ev_neg (by omega) (ev_now ?_)
    rw [decide_eq_true (fun j h1 h2 => by omega)]
  | n + 1, i, hi => by
    refine Ev.step (fun k => shares_equal.l0.eq_2 _ _ _ _ k) ?_
    simp only [rdSh, shares_same.ev, Option.bind_some]
    refine ev_pos (by omega) (ev_pos (by omega) (ev_pos (by omega) (ev_pos (by omega) ?_)))
    by_cases h : (m.getD i z107).f0 = (l.getD i z107).f0
    · refine ev_pos (beq_iff_eq.2 h.symm) ?_
      rw [inc (by omega)]
      refine ev_eq (shares_equal.ev_l0 l m hl hn n (i + 1) (by omega)) ?_
      refine decide_eq_decide.2 ⟨fun z j h1 h2 => ?_, fun z j h1 h2 => z j h1 (by omega)⟩
      rcases Nat.eq_or_lt_of_le h2 with e | e
      · exact e ▸ h
      · exact z j h1 e
    · refine ev_neg (fun z => h (beq_iff_eq.1 z).symm) (ev_now ?_)
      rw [decide_eq_false (fun z => h (z i (by omega) (Nat.le_refl _)))]
theorem shares_equal.ev {l m : List (S107)} (hn : l.length ≤ 1048576) : Ev (fun k => shares_equal.f k l m) (decide (l.length = m.length ∧ ∀ j, j < l.length → (m.getD j z107).f0 = (l.getD j z107).f0)) := by
  unfold shares_equal.f
  by_cases c : l.length = m.length
  · refine ev_pos (by omega) (ev_eq (shares_equal.ev_l0 l m c hn l.length 0 (by omega)) ?_)
    exact decide_eq_decide.2 ⟨fun z => ⟨c, fun j h => z j h (Nat.zero_le _)⟩, fun z j h _ => z.2 j h⟩
  · refine ev_neg (by omega) (ev_now ?_)
    rw [decide_eq_false (fun z => c z.1)]

theorem impl_AddShares.ev_l0 (l m : List (S107)) (hl : l.length = m.length) (hn : l.length ≤ 1048576) : ∀ (n i : Nat), i + n = l.length →
    Ev (fun k => impl_AddShares.l0 k m ((addSh l m).take i) l (l.length : Int) (i : Int)) (addSh l m, true)
  | 0, i, hi => by
    refine Ev.step (fun k => impl_AddShares.l0.eq_2 _ _ _ _ _ k) ?_
    refine ev_neg (by omega) (ev_now ?_)
    rw [List.take_of_length_le (by rw [addSh_length]; omega)]
  | n + 1, i, hi => by
    refine Ev.step (fun k => impl_AddShares.l0.eq_2 _ _ _ _ _ k) ?_
    simp only [rdSh]
    refine ev_pos (by omega) (ev_pos (by omega) (ev_pos (by omega) (ev_pos (by omega) (ev_pos (by rw [List.length_take]; omega) ?_))))
    rw [inc (by omega), addSh_succ _ _ (by omega)]
    exact impl_AddShares.ev_l0 l m hl hn n (i + 1) (by omega)
theorem impl_AddShares.ev {l m : List (S107)} (hl : l.length ≤ 1048576) (hm : m.length ≤ 1048576) : Ev (fun k => impl_AddShares.f k l m) (shVal l m) := by
  unfold impl_AddShares.f shVal
  have hno : ∀ c : Prop, [Decidable c] → ¬ c → Ev (fun k => impl_AddShares.j0 k l m true) (if c then (addSh l m, true) else ([], false)) := fun c _ hc => by
    refine Ev.step (fun k => impl_AddShares.j0.eq_2 _ _ _ k) ?_
    exact ev_pos rfl (ev_now (if_neg hc).symm)
  refine ev_bind (impl_areShares.ev l (by omega)) ?_
  by_cases c1 : okSh l = true
  · refine ev_pos c1 (ev_bind (impl_areShares.ev m (by omega)) ?_)
    by_cases c2 : okSh m = true
    · refine ev_pos c2 (ev_bind (shares_equal.ev hl) ?_)
      by_cases c3 : l.length = m.length ∧ ∀ j, j < l.length → (m.getD j z107).f0 = (l.getD j z107).f0
      · rw [decide_eq_true c3, if_pos ⟨c1, c2, c3⟩]
        refine Ev.step (fun k => impl_AddShares.j0.eq_2 _ _ _ k) ?_
        refine ev_neg (by simp) ?_
        exact impl_AddShares.ev_l0 l m c3.1 hl l.length 0 (by omega)
      · rw [decide_eq_false c3]
        exact hno _ (fun z => c3 z.2.2)
    · exact ev_neg c2 (hno _ (fun z => c2 z.2.1))
  · exact ev_neg c1 (hno _ (fun z => c1 z.1))

theorem laws_eqShare.ev (x y : Int) : laws_eqShare.f x y x y = some true := by
  unfold laws_eqShare.f
  rw [if_pos rfl, if_pos rfl]

theorem laws_eqShareS.ev_l0 (l : List (S107)) (hl : l.length < 4611686018427387904) : ∀ (n i : Nat), i + n = l.length → Ev (fun k => laws_eqShareS.l0 k l l (i : Int)) true
  | 0, i, hi => by
    refine Ev.step (fun k => laws_eqShareS.l0.eq_2 _ _ _ k) ?_
    exact ev_neg (by omega) (ev_now rfl)
  | n + 1, i, hi => by
    refine Ev.step (fun k => laws_eqShareS.l0.eq_2 _ _ _ k) ?_
    simp only [laws_eqShare.ev, Option.bind_some]
    refine ev_pos (by omega) (ev_pos (by omega) (ev_pos (by omega) (ev_pos (by trivial) ?_)))
    rw [inc (by omega)]
    exact laws_eqShareS.ev_l0 l hl n (i + 1) (by omega)
theorem laws_eqShareS.ev (l : List (S107)) (hl : l.length ≤ 281474976710656) : Ev (fun k => laws_eqShareS.f k l l) true := by
  unfold laws_eqShareS.f
  exact ev_pos rfl (laws_eqShareS.ev_l0 l (by omega) l.length 0 (by omega))

def markSh (a : Int) (n : Nat) : List (S107) := (List.range n).map fun i => ⟨(a + 2 * (i : Nat)) % 256, (a + 2 * (i : Nat) + 1) % 256⟩
theorem markSh_length (a : Int) (n : Nat) : (markSh a n).length = n := by simp [markSh]
theorem rd_sh (l : List (S107)) (i : Nat) (h : i < l.length) : rd_T107 l (i : Int) = l[i] := by unfold rd_T107; simp [List.getD, h]
theorem laws_markShareS.ev_l0 (a : Int) (m : Nat) (ha : 0 ≤ a) (hm : a + 2 * m < 4611686018427387904) : ∀ (n i : Nat) (o : List (S107)), i + n = m → o.length = m → o.take i = (markSh a m).take i →
    Ev (fun k => laws_markShareS.l0 k o (a + 2 * (i : Nat)) (i : Int)) (a + 2 * (m : Nat), markSh a m)
  | 0, i, o, hi, ho, ht => by
    refine Ev.step (fun k => laws_markShareS.l0.eq_2 _ _ _ k) ?_
    refine ev_neg (by omega) (ev_now ?_)
    have hb := markSh_length a m
    rw [List.take_of_length_le (by omega), List.take_of_length_le (by omega)] at ht
    subst ht
    have : i = m := by omega
    rw [this]
  | n + 1, i, o, hi, ho, ht => by
    refine Ev.step (fun k => laws_markShareS.l0.eq_2 _ _ _ k) ?_
    refine ev_pos (by omega) (ev_pos (by omega) ?_)
    simp only [Option.bind_some]
    have e : wrap64 (a + 2 * (i : Nat) + 1) = a + 2 * (i : Nat) + 1 := by unfold wrap64; omega
    have e2 : wrap64 (a + 2 * (i : Nat) + 1 + 1) = a + 2 * ((i + 1 : Nat) : Int) := by unfold wrap64; omega
    rw [e, e2, inc (by omega), Int.toNat_natCast]
    refine laws_markShareS.ev_l0 a m ha hm n (i + 1) _ (by omega) (by simpa using ho) ?_
    have hb := markSh_length a m
    rw [List.take_succ_eq_append_getElem (by simp; omega), List.take_succ_eq_append_getElem (by omega), ← ht]
    simp [markSh, rd_T107, List.take_set_of_le, List.getD, show i < o.length by omega]
theorem laws_markShareS.ev (l : List (S107)) (a : Int) (ha : 0 ≤ a) (hm : a + 2 * l.length < 4611686018427387904) : Ev (fun k => laws_markShareS.f k l a) (a + 2 * (l.length : Nat), markSh a l.length) := by
  unfold laws_markShareS.f
  have := laws_markShareS.ev_l0 a l.length ha hm l.length 0 l (by omega) rfl rfl
  simpa using this

theorem laws_heldShareS.ev_l0 (a : Int) (m : Nat) (ha : 0 ≤ a) (hm : a + 2 * m < 4611686018427387904) : ∀ (n i : Nat), i + n = m →
    Ev (fun k => laws_heldShareS.l0 k (markSh a m) (a + 2 * (i : Nat)) (i : Int)) (a + 2 * (m : Nat))
  | 0, i, hi => by
    have hb := markSh_length a m
    refine Ev.step (fun k => laws_heldShareS.l0.eq_2 _ _ _ k) ?_
    refine ev_neg (by omega) (ev_now ?_)
    have : i = m := by omega
    rw [this]
  | n + 1, i, hi => by
    have hb := markSh_length a m
    refine Ev.step (fun k => laws_heldShareS.l0.eq_2 _ _ _ k) ?_
    have e : wrap64 (a + 2 * (i : Nat) + 1) = a + 2 * (i : Nat) + 1 := by unfold wrap64; omega
    have e2 : wrap64 (a + 2 * (i : Nat) + 1 + 1) = a + 2 * ((i + 1 : Nat) : Int) := by unfold wrap64; omega
    rw [e, e2, rd_sh _ _ (by omega), inc (by omega)]
    refine ev_pos (by omega) (ev_pos (by omega) (ev_pos (by simp [markSh]) (ev_pos (by simp [markSh]) ?_)))
    exact laws_heldShareS.ev_l0 a m ha hm n (i + 1) (by omega)
theorem laws_heldShareS.ev (a : Int) (m : Nat) (ha : 0 ≤ a) (hm : a + 2 * m < 4611686018427387904) : Ev (fun k => laws_heldShareS.f k (markSh a m) a) (a + 2 * (m : Nat)) := by
  unfold laws_heldShareS.f
  have := laws_heldShareS.ev_l0 a m ha hm m 0 (by omega)
  simpa using this

theorem szShareS_ev2 (l : List (S109)) (hl : l.length ≤ maxLen) {a : Int} (h0 : 0 ≤ a) (h1 : a ≤ 1048576) : laws_szShareS.f l a = some (if (l.length : Int) ≤ a then a - (l.length : Int) else -1) := by
  unfold laws_szShareS.f
  unfold maxLen at hl
  have e : wrap64 (a - (l.length : Int)) = a - (l.length : Int) := by unfold wrap64; omega
  rw [e]
  by_cases h : (l.length : Int) ≤ a
  · rw [if_neg (by omega), if_pos h]
  · rw [if_pos (by omega), if_neg h]
theorem FnExactAddShares : ∀ (l m : List (S109)), (l.length ≤ maxLen ∧ ∀ s ∈ l, ((Lit.int .u8 s.f0).wf = true ∧ (Lit.int .u8 s.f1).wf = true)) → (m.length ≤ maxLen ∧ ∀ s ∈ m, ((Lit.int .u8 s.f0).wf = true ∧ (Lit.int .u8 s.f1).wf = true)) → ∃ k, laws_FnExactAddShares.f k l m = some true := by
  intro l m hl hm
  refine Ev.rounds ?_
  unfold laws_FnExactAddShares.f
  simp only [szShareS_ev2 l hl.1 (a := 1048576) (by decide) (by decide), Option.bind_some]
  by_cases h : (l.length : Int) ≤ 1048576
  · rw [if_pos h]
    refine ev_neg (by omega) ?_
    simp only [szShareS_ev2 m hm.1 (a := 1048576 - (l.length : Int)) (by omega) (by omega), Option.bind_some]
    by_cases h2 : (m.length : Int) ≤ 1048576 - (l.length : Int)
    · rw [if_pos h2]
      refine ev_neg (by omega) ?_
      have ht := laws_toShareS.ev l (by omega)
      have hu := laws_toShareS.ev m (by omega)
      have hn : (l.map toSh).length ≤ 1048576 := by rw [List.length_map]; omega
      have hn2 : (m.map toSh).length ≤ 1048576 := by rw [List.length_map]; omega
      have hs := spec_AddShares.ev hn hn2
      have hi := impl_AddShares.ev hn hn2
      have hz := shVal_len (m := m.map toSh) hn
      generalize shVal (l.map toSh) (m.map toSh) = rb at hs hi hz
      obtain ⟨r, b⟩ := rb
      have hz2 : r.length ≤ 1048576 := hz
      generalize l.map toSh = L at *
      generalize m.map toSh = M at *
      repeat first
        | exact ev_now rfl
        | refine ev_bind ht ?_
        | refine ev_bind hu ?_
        | refine ev_bind hs ?_
        | refine ev_bind hi ?_
        | refine ev_bind (laws_eqShareS.ev _ (by omega)) ?_
        | refine ev_bind (laws_markShareS.ev _ _ (by omega) (by omega)) ?_
        | refine ev_bind (laws_heldShareS.ev _ _ (by omega) (by omega)) ?_
        | refine Ev.step (fun k => laws_FnExactAddShares.j0.eq_2 _ _ _ _ _ _ _ _ _ k) ?_
        | refine Ev.step (fun k => laws_FnExactAddShares.j1.eq_2 _ _ _ _ _ _ k) ?_
        | refine Ev.step (fun k => laws_FnExactAddShares.j2.eq_2 _ _ _ k) ?_
        | refine ev_pos rfl ?_
        | (refine ev_neg ?hc ?_; (case hc => first | omega | (simp; done) | (simp; omega)))
        | (refine ev_pos ?hc ?_; (case hc => first | omega | (simp; done)))
    · rw [if_neg h2]
      exact ev_pos (by omega) (ev_now rfl)
  · rw [if_neg h]
    exact ev_pos (by omega) (ev_now rfl)

end Go.Proofs.Ytelkciakdhiicaa.Pure
