/- The given program's HelpFor returns what the reference's HelpFor returns, for all codes, pieces and numbers, and leaves the piece as it was; there is no condition. -/
import Derived.Test.YtggiajjnfldkgaaPFnExactHelpForx5
import Derived.Test.YtggiajjnfldkgaaKit
namespace Go.Proofs.Ytggiajjnfldkgaa.Pure
open Go.RowKit Go.Proofs.Ytggiajjnfldkgaa.PFnExactHelpFor Go.Proofs.YtggiajjnfldkgaaW.PrintWords Go.Proofs.YtggiajjnfldkgaaW.PrintLast Go.Proofs.Ytggiajjnfldkgaa.Gf Go.Proofs.Ytggiajjnfldkgaa.Kit
set_option linter.unusedVariables false
set_option linter.unusedSimpArgs false

theorem laws_toMsr.ev (n k : Int) : laws_toMsr.f n k = some (n, k) := rfl

theorem laws_szByteS.ev (l : List Int) (a : Int) (hl : l.length ≤ maxLen) (h1 : 0 ≤ a) (h2 : a ≤ 1048576) : laws_szByteS.f l a = some (if (l.length : Int) ≤ a then a - (l.length : Int) else -1) := by
  unfold laws_szByteS.f
  unfold maxLen at hl
  have e : wrap64 (a - (l.length : Int)) = a - (l.length : Int) := by unfold wrap64; omega
  rw [e]
  by_cases h : (l.length : Int) ≤ a
  · rw [if_neg (by omega), if_pos h]
  · rw [if_pos (by omega), if_neg h]

theorem laws_szPiece.ev (x : Int) (l : List Int) (a : Int) (hl : l.length ≤ maxLen) (h1 : 0 ≤ a) (h2 : a ≤ 1048576) : laws_szPiece.f x l a = some (if (l.length : Int) ≤ a then a - (l.length : Int) else -1) := by
  unfold laws_szPiece.f
  simp only [laws_szByteS.ev l a hl h1 h2, Option.bind_some]
  by_cases h : (l.length : Int) ≤ a
  · rw [if_pos h, if_neg (by omega)]
  · rw [if_neg h, if_pos (by omega)]

theorem spec_l1In.ev (a b c : Int) : spec_l1In.f a b c = some (decide (b ≤ a ∧ a ≤ c)) := by
  unfold spec_l1In.f
  by_cases h : a ≥ b
  · rw [if_pos h]; simp [h]
  · rw [if_neg h]; simp; omega

theorem spec_GoodMsr.ev (n k : Int) : spec_GoodMsr.f n k = some (decide (GoodMsr n k)) := by
  unfold spec_GoodMsr.f
  simp only [spec_l1In.ev, Option.bind_some, decide_eq_true_eq]
  by_cases h : 2 ≤ k ∧ k ≤ 4
  · have e : wrap64 (wrap64 (2 * k) - 1) = 2 * k - 1 := by unfold wrap64; omega
    simp [h, e]
  · simp [h]

theorem spec_l5Piece.ev {n k : Int} (hg : GoodMsr n k) (x : Int) (l : List Int) : spec_l5Piece.f n k x l = some (decide (0 ≤ x ∧ x ≤ n - 1 ∧ (l.length : Int) = k - 1)) := by
  unfold spec_l5Piece.f
  have e : wrap64 (n - 1) = n - 1 := by unfold wrap64; omega
  have e2 : wrap64 (k - 1) = k - 1 := by unfold wrap64; omega
  simp only [spec_l1In.ev, Option.bind_some, decide_eq_true_eq, e, e2]
  by_cases h : 0 ≤ x ∧ x ≤ n - 1
  · rw [if_pos h]; by_cases h2 : (l.length : Int) = k - 1 <;> simp [h, h2]
  · rw [if_neg h]; simp; omega

theorem spec_l1Times.ev_l0 : ∀ (n o x y : Nat), y < 2 ^ n → n ≤ 8 → o < 256 → x < 256 →
    Ev (fun k => spec_l1Times.l0 k (o : Int) (x : Int) (y : Int)) ((T n o x y : Nat) : Int)
  | 0, o, x, y, hy, _, ho, hx => by
    refine Ev.step (fun k => spec_l1Times.l0.eq_2 _ _ _ k) ?_
    have : y = 0 := by simpa using hy
    subst this
    refine ev_neg (by decide) (ev_now ?_)
    simp only [T]
    omega
  | n + 1, o, x, y, hy, hn, ho, hx => by
    have hy8 : y < 256 := Nat.lt_of_lt_of_le hy (Nat.pow_le_pow_right (n := 2) (by decide) hn)
    by_cases h0 : y = 0
    · subst h0
      refine Ev.step (fun k => spec_l1Times.l0.eq_2 _ _ _ k) ?_
      refine ev_neg (by decide) (ev_now ?_)
      rw [T_zero]
      omega
    refine Ev.step (fun k => spec_l1Times.l0.eq_2 _ _ _ k) ?_
    refine ev_pos (by omega) ?_
    have e2 : wrap64 ((x : Int) * 2) = ((2 * x : Nat) : Int) := by rw [wrap_id (by omega) (by omega)]; omega
    have e3 : ((y : Int) / 2) = ((y / 2 : Nat) : Int) := by omega
    have e4 : Go.bits .xor .i64 (o : Int) (x : Int) = ((o ^^^ x : Nat) : Int) := xor_i64 (by omega) (by omega)
    have e5 : Go.bits .xor .i64 ((2 * x : Nat) : Int) 283 = ((2 * x ^^^ 283 : Nat) : Int) := xor_i64 (m := 2 * x) (n := 283) (by omega) (by omega)
    rw [and1_i64 (by omega), e2, e3, e4, e5]
    have hT : T (n + 1) o x y = T n (if y % 2 = 1 then o ^^^ x else o) (xt x) (y / 2) := by rw [T]
    rw [hT]
    have hxt := xt_lt hx
    have hox := xor_lt ho hx
    have hh : y / 2 < 2 ^ n := by rw [Nat.pow_succ] at hy; omega
    by_cases h1 : y % 2 = 1
    · rw [if_pos h1]
      refine ev_pos (by omega) ?_
      by_cases h2 : 2 * x > 255
      · refine ev_pos (by omega) ?_
        have : xt x = 2 * x ^^^ 283 := by unfold xt; rw [if_pos h2]
        rw [this] at hxt ⊢
        exact spec_l1Times.ev_l0 n _ _ _ hh (by omega) hox hxt
      · refine ev_neg (by omega) ?_
        have : xt x = 2 * x := by unfold xt; rw [if_neg h2]
        rw [this] at hxt ⊢
        exact spec_l1Times.ev_l0 n _ _ _ hh (by omega) hox hxt
    · rw [if_neg h1]
      refine ev_neg (by omega) ?_
      by_cases h2 : 2 * x > 255
      · refine ev_pos (by omega) ?_
        have : xt x = 2 * x ^^^ 283 := by unfold xt; rw [if_pos h2]
        rw [this] at hxt ⊢
        exact spec_l1Times.ev_l0 n _ _ _ hh (by omega) ho hxt
      · refine ev_neg (by omega) ?_
        have : xt x = 2 * x := by unfold xt; rw [if_neg h2]
        rw [this] at hxt ⊢
        exact spec_l1Times.ev_l0 n _ _ _ hh (by omega) ho hxt
theorem spec_l1Times.ev {a b : Int} (ha : Byte a) (hb : Byte b) : Ev (fun k => spec_l1Times.f k a b) (mul a b) := by
  obtain ⟨m, hm, rfl⟩ := ha.nat
  obtain ⟨n, hn, rfl⟩ := hb.nat
  unfold spec_l1Times.f
  rw [wrap_id (i := (m : Int)) (by omega) (by omega), wrap_id (i := (n : Int)) (by omega) (by omega)]
  have h := spec_l1Times.ev_l0 8 0 m n hn (Nat.le_refl _) (by decide) hm
  exact ev_eq h (by unfold Gf.mul gm; simp)

theorem spec_l1Dot.ev_l0 (v w : List Int) (hv : Bytes v) (hw : Bytes w) (hl : v.length = w.length) (hs : v.length < 140737488355328) : ∀ (n i : Nat) (o : Int), i + n = v.length → Byte o →
    Ev (fun k => spec_l1Dot.l0 k v w o (v.length : Int) (i : Int)) (gx o (dotV (v.drop i) (w.drop i)))
  | 0, i, o, hi, ho => by
    refine Ev.step (fun k => spec_l1Dot.l0.eq_2 _ _ _ _ _ k) ?_
    refine ev_neg (by omega) (ev_now ?_)
    rw [List.drop_of_length_le (by omega)]
    exact (gx_zero ho).symm
  | n + 1, i, o, hi, ho => by
    refine Ev.step (fun k => spec_l1Dot.l0.eq_2 _ _ _ _ _ k) ?_
    refine ev_pos (by omega) (ev_pos (by omega) (ev_pos (by omega) (ev_pos (by omega) ?_)))
    have bv : Byte (rd v (i : Int)) := bytes_rd hv (by omega)
    have bw : Byte (rd w (i : Int)) := bytes_rd hw (by omega)
    refine ev_bind (spec_l1Times.ev bv bw) ?_
    have bm := Byte.mul bv (rd w (i : Int))
    have bg := Byte.gx ho bm
    rw [inc (by omega), xor_u8 ho bm]
    refine ev_eq (spec_l1Dot.ev_l0 v w hv hw hl hs n (i + 1) _ (by omega) bg) ?_
    rw [drop_cons (l := v) (i := i) (by omega), drop_cons (l := w) (i := i) (by omega), rd_get (by omega), rd_get (by omega), dotV, gx_assoc]
theorem spec_l1Dot.ev {v w : List Int} (hv : Bytes v) (hw : Bytes w) (hl : v.length = w.length) (hs : v.length < 140737488355328) : Ev (fun k => spec_l1Dot.f k v w) (dotV v w) := by
  unfold spec_l1Dot.f
  refine ev_eq (spec_l1Dot.ev_l0 v w hv hw hl hs v.length 0 0 (by omega) .zero) ?_
  exact zero_gx (dotV_byte hv)

theorem spec_l1Power.ev_l0 (a : Int) (ha : Byte a) : ∀ (n m : Nat), n < 4611686018427387904 → Ev (fun k => spec_l1Power.l0 k a (n : Int) (pow a m)) (pow a (m + n))
  | 0, m, _ => by
    refine Ev.step (fun k => spec_l1Power.l0.eq_2 _ _ _ k) ?_
    exact ev_neg (by omega) (ev_now rfl)
  | n + 1, m, hn => by
    refine Ev.step (fun k => spec_l1Power.l0.eq_2 _ _ _ k) ?_
    refine ev_pos (by omega) ?_
    refine ev_bind (spec_l1Times.ev (Byte.pow ha m) ha) ?_
    have e : wrap64 (((n + 1 : Nat) : Int) - 1) = (n : Int) := by unfold wrap64; omega
    rw [e, ← pow_succ]
    refine ev_eq (spec_l1Power.ev_l0 a ha n (m + 1) (by omega)) ?_
    rw [Nat.add_right_comm, Nat.add_assoc]
theorem spec_l1Power.ev {a : Int} (ha : Byte a) (n : Nat) (hn : n < 4611686018427387904) : Ev (fun k => spec_l1Power.f k a (n : Int)) (pow a n) := by
  unfold spec_l1Power.f
  have := spec_l1Power.ev_l0 a ha n 0 hn
  rw [pow_zero, Nat.zero_add] at this
  exact this

theorem spec_l5X.ev (j : Nat) (hj : j < 4294967296) : Ev (fun k => spec_l5X.f k (j : Int)) (nodeX j) := by
  unfold spec_l5X.f
  rw [inc (by omega)]
  exact ev_bind (spec_l1Power.ev byte3 (j + 1) (by omega)) (ev_now rfl)

theorem spec_l5Short.ev_l0 (n : Int) (a j : Nat) (ha : a ≤ 3) (hj : j < 4294967296) : ∀ (d i : Nat) (o : List Int), i + d = a → o = (shortR a j).take i →
    Ev (fun k => spec_l5Short.l0 k (j : Int) o (i : Int) n ((a + 1 : Nat) : Int)) (shortR a j)
  | 0, i, o, hi, ho => by
    have e : wrap64 (((a + 1 : Nat) : Int) - 1) = (a : Int) := by unfold wrap64; omega
    refine Ev.step (fun k => spec_l5Short.l0.eq_2 _ _ _ _ _ k) ?_
    rw [e]
    refine ev_neg (by omega) (ev_now ?_)
    rw [ho, List.take_of_length_le (by rw [shortR_length]; omega)]
  | d + 1, i, o, hi, ho => by
    have e : wrap64 (((a + 1 : Nat) : Int) - 1) = (a : Int) := by unfold wrap64; omega
    have hl : o.length ≤ 3 := by rw [ho, List.length_take, shortR_length]; omega
    refine Ev.step (fun k => spec_l5Short.l0.eq_2 _ _ _ _ _ k) ?_
    rw [e]
    refine ev_pos (by omega) ?_
    refine ev_bind (spec_l5X.ev j hj) (ev_bind (spec_l1Power.ev (nodeX_byte j) i (by omega)) (ev_pos (by omega) ?_))
    rw [inc (by omega)]
    exact spec_l5Short.ev_l0 n a j ha hj d (i + 1) _ (by omega) (by rw [shortR_succ a j i (by omega), ← ho])
theorem spec_l5Short.ev (n : Int) (a j : Nat) (ha : a ≤ 3) (hj : j < 4294967296) : Ev (fun k => spec_l5Short.f k n ((a + 1 : Nat) : Int) (j : Int)) (shortR a j) := by
  unfold spec_l5Short.f
  exact spec_l5Short.ev_l0 n a j ha hj a 0 [] (by omega) rfl

def helpVal (n k x : Int) (l : List Int) (j : Int) : Int × Int × Bool :=
  if GoodMsr n k ∧ (0 ≤ x ∧ x ≤ n - 1 ∧ (l.length : Int) = k - 1) ∧ (0 ≤ j ∧ j ≤ n - 1) ∧ j ≠ x then (x, dotV l (shortR (k - 1).toNat j.toNat), true) else (0, 0, false)
theorem helpVal_no {n k x : Int} {l : List Int} {j : Int} (h : ¬ (GoodMsr n k ∧ (0 ≤ x ∧ x ≤ n - 1 ∧ (l.length : Int) = k - 1) ∧ (0 ≤ j ∧ j ≤ n - 1) ∧ j ≠ x)) : helpVal n k x l j = (0, 0, false) := if_neg h
theorem spec_HelpFor.ev_no (j x : Int) (n k : Int) (l : List Int) : Ev (fun q => spec_HelpFor.j0 q j true n k x l) (0, 0, false) :=
  Ev.step (fun q => spec_HelpFor.j0.eq_2 _ _ _ _ _ _ q) (ev_pos rfl (ev_now rfl))
theorem spec_HelpFor.ev (n k x : Int) {l : List Int} (hl : Bytes l) (j : Int) : Ev (fun q => spec_HelpFor.f q n k x l j) (helpVal n k x l j) := by
  unfold spec_HelpFor.f
  simp only [spec_GoodMsr.ev, spec_l1In.ev, Option.bind_some, decide_eq_true_eq]
  by_cases h : GoodMsr n k
  · refine ev_pos h ?_
    simp only [spec_l5Piece.ev h, Option.bind_some, decide_eq_true_eq]
    have e : wrap64 (n - 1) = n - 1 := by unfold wrap64; omega
    rw [e]
    by_cases h1 : 0 ≤ x ∧ x ≤ n - 1 ∧ (l.length : Int) = k - 1
    · refine ev_pos h1 ?_
      by_cases h2 : 0 ≤ j ∧ j ≤ n - 1
      · refine ev_pos h2 ?_
        by_cases h3 : j = x
        · have : (j == x) = true := by simpa using h3
          rw [this]
          exact ev_eq (spec_HelpFor.ev_no _ _ _ _ _) (helpVal_no (fun z => z.2.2.2 h3)).symm
        · have : (j == x) = false := by simpa using h3
          rw [this]
          refine Ev.step (fun q => spec_HelpFor.j0.eq_2 _ _ _ _ _ _ q) (ev_neg (by simp) ?_)
          unfold helpVal
          rw [if_pos ⟨h, h1, h2, h3⟩]
          obtain ⟨a, m, rfl, rfl, h4⟩ := GoodMsr_nat h
          obtain ⟨i, rfl⟩ := Int.eq_ofNat_of_zero_le h2.1
          have ea : (((a + 1 : Nat) : Int) - 1).toNat = a := by omega
          rw [ea, Int.toNat_natCast]
          refine ev_bind (spec_l5Short.ev _ a i (by omega) (by omega)) ?_
          exact ev_bind (spec_l1Dot.ev hl (shortR_bytes a i) (by rw [shortR_length]; omega) (by omega)) (ev_now rfl)
      · exact ev_neg h2 (ev_eq (spec_HelpFor.ev_no _ _ _ _ _) (helpVal_no (fun z => h2 z.2.2.1)).symm)
    · exact ev_neg h1 (ev_eq (spec_HelpFor.ev_no _ _ _ _ _) (helpVal_no (fun z => h1 z.2.1)).symm)
  · exact ev_neg h (ev_eq (spec_HelpFor.ev_no _ _ _ _ _) (helpVal_no (fun z => h z.1)).symm)

theorem laws_toByteS.ev_l0 (l : List Int) (hl : l.length < 4611686018427387904) : ∀ (n i : Nat) (o : List Int), i + n = l.length → o.length = l.length → o.take i = l.take i →
    Ev (fun k => laws_toByteS.l0 k l o (i : Int)) l
  | 0, i, o, hi, ho, ht => by
    refine Ev.step (fun k => laws_toByteS.l0.eq_2 _ _ _ k) ?_
    refine ev_neg (by omega) (ev_now ?_)
    rw [List.take_of_length_le (by omega), List.take_of_length_le (by omega)] at ht
    exact ht
  | n + 1, i, o, hi, ho, ht => by
    refine Ev.step (fun k => laws_toByteS.l0.eq_2 _ _ _ k) ?_
    refine ev_pos (by omega) (ev_pos (by omega) (ev_pos (by omega) ?_))
    rw [inc (by omega), Int.toNat_natCast]
    refine laws_toByteS.ev_l0 l hl n (i + 1) _ (by omega) (by simpa using ho) ?_
    rw [take_set_succ _ _ _ (by omega), ht, List.take_succ_eq_append_getElem (by omega), rd_get (by omega)]
theorem laws_toByteS.ev (l : List Int) (hl : l.length ≤ 281474976710656) : Ev (fun k => laws_toByteS.f k l) l := by
  unfold laws_toByteS.f
  refine ev_pos (by omega) (ev_pos (by omega) ?_)
  exact laws_toByteS.ev_l0 l (by omega) l.length 0 _ (by omega) (by simp) rfl

theorem laws_toPiece.ev (x : Int) (l : List Int) (hl : l.length ≤ 281474976710656) : Ev (fun k => laws_toPiece.f k x l) (x, l) := by
  unfold laws_toPiece.f
  exact ev_bind (laws_toByteS.ev l hl) (ev_now rfl)

theorem impl_within.ev (a b c : Int) : impl_within.f a b c = some (decide (b ≤ a ∧ a ≤ c)) := by
  unfold impl_within.f
  by_cases h : a ≥ b
  · rw [if_pos h]; simp [h]
  · rw [if_neg h]; simp; omega

theorem impl_GoodMsr.ev (n k : Int) : impl_GoodMsr.f n k = some (decide (GoodMsr n k)) := by
  unfold impl_GoodMsr.f
  simp only [impl_within.ev, Option.bind_some, decide_eq_true_eq]
  by_cases h : 2 ≤ k ∧ k ≤ 4
  · have e : wrap64 (wrap64 (2 * k) - 1) = 2 * k - 1 := by unfold wrap64; omega
    simp [h, e]
  · simp [h]

theorem impl_Msr_isNode.ev (n k j : Int) : impl_Msr_isNode.f n k j = some (decide (GoodMsr n k ∧ 0 ≤ j ∧ j ≤ n - 1)) := by
  unfold impl_Msr_isNode.f
  simp only [impl_GoodMsr.ev, impl_within.ev, Option.bind_some, decide_eq_true_eq]
  by_cases h : GoodMsr n k
  · have e : wrap64 (n - 1) = n - 1 := by unfold wrap64; omega
    rw [if_pos h, e]
    simp [h]
  · rw [if_neg h]
    simp [h]

theorem impl_Msr_alpha.ev {n k : Int} (h : GoodMsr n k) : impl_Msr_alpha.f n k = some (k - 1) := by
  unfold impl_Msr_alpha.f
  have e : wrap64 (k - 1) = k - 1 := by unfold wrap64; omega
  rw [e]

theorem impl_Msr_isPiece.ev {n k : Int} (hg : GoodMsr n k) (x : Int) (l : List Int) : impl_Msr_isPiece.f n k x l = some (decide (0 ≤ x ∧ x ≤ n - 1 ∧ (l.length : Int) = k - 1)) := by
  unfold impl_Msr_isPiece.f
  have e : wrap64 (n - 1) = n - 1 := by unfold wrap64; omega
  simp only [impl_within.ev, impl_Msr_alpha.ev hg, Option.bind_some, decide_eq_true_eq, e]
  by_cases h : 0 ≤ x ∧ x ≤ n - 1
  · rw [if_pos h]; by_cases h2 : (l.length : Int) = k - 1 <;> simp [h, h2]
  · rw [if_neg h]; simp; omega

theorem impl_Times.ev_l0 (b : Nat) (hb : b < 256) : ∀ (n i o x : Nat), i + n = 8 → o < 256 → x < 256 →
    Ev (fun k => impl_Times.l0 k (b : Int) (o : Int) (i : Int) (x : Int)) ((T n o x (b / 2 ^ i) : Nat) : Int)
  | 0, i, o, x, hi, ho, hx => by
    refine Ev.step (fun k => impl_Times.l0.eq_2 _ _ _ _ k) ?_
    refine ev_neg (by omega) (ev_now ?_)
    simp only [T]
    omega
  | n + 1, i, o, x, hi, ho, hx => by
    refine Ev.step (fun k => impl_Times.l0.eq_2 _ _ _ _ k) ?_
    refine ev_pos (by omega) (ev_pos (by omega) ?_)
    have e1 : shr .u8 (b : Int) (i : Int) = ((b / 2 ^ i : Nat) : Int) := by
      unfold shr
      rw [Nat.min_eq_left (by simp only [IntKind.bits]; omega)]
      simp
    have hd : b / 2 ^ i < 256 := Nat.lt_of_le_of_lt (Nat.div_le_self _ _) hb
    have e2 : wrap64 ((x : Int) * 2) = ((2 * x : Nat) : Int) := by rw [wrap_id (by omega) (by omega)]; omega
    have e3 : wrap64 ((i : Int) + 1) = ((i + 1 : Nat) : Int) := by rw [wrap_id (by omega) (by omega)]; omega
    rw [e1, and1_u8 hd, e2, e3]
    have e4 : Go.bits .xor .i64 (o : Int) (x : Int) = ((o ^^^ x : Nat) : Int) := xor_i64 (by omega) (by omega)
    have e5 : Go.bits .xor .i64 ((2 * x : Nat) : Int) 283 = ((2 * x ^^^ 283 : Nat) : Int) := xor_i64 (m := 2 * x) (n := 283) (by omega) (by omega)
    have e6 : b / 2 ^ i / 2 = b / 2 ^ (i + 1) := by rw [Nat.div_div_eq_div_mul, Nat.pow_succ]
    rw [e4, e5]
    have hT : T (n + 1) o x (b / 2 ^ i) = T n (if b / 2 ^ i % 2 = 1 then o ^^^ x else o) (xt x) (b / 2 ^ (i + 1)) := by rw [T, e6]
    rw [hT]
    have hxt := xt_lt hx
    have hox := xor_lt ho hx
    by_cases h1 : b / 2 ^ i % 2 = 1
    · rw [if_pos h1]
      refine ev_pos (by omega) ?_
      by_cases h2 : 2 * x > 255
      · refine ev_pos (by omega) ?_
        have : xt x = 2 * x ^^^ 283 := by unfold xt; rw [if_pos h2]
        rw [this] at hxt ⊢
        exact impl_Times.ev_l0 b hb n (i + 1) _ _ (by omega) hox hxt
      · refine ev_neg (by omega) ?_
        have : xt x = 2 * x := by unfold xt; rw [if_neg h2]
        rw [this] at hxt ⊢
        exact impl_Times.ev_l0 b hb n (i + 1) _ _ (by omega) hox hxt
    · rw [if_neg h1]
      refine ev_neg (by omega) ?_
      by_cases h2 : 2 * x > 255
      · refine ev_pos (by omega) ?_
        have : xt x = 2 * x ^^^ 283 := by unfold xt; rw [if_pos h2]
        rw [this] at hxt ⊢
        exact impl_Times.ev_l0 b hb n (i + 1) _ _ (by omega) ho hxt
      · refine ev_neg (by omega) ?_
        have : xt x = 2 * x := by unfold xt; rw [if_neg h2]
        rw [this] at hxt ⊢
        exact impl_Times.ev_l0 b hb n (i + 1) _ _ (by omega) ho hxt
theorem impl_Times.ev {a b : Int} (ha : Byte a) (hb : Byte b) : Ev (fun k => impl_Times.f k a b) (mul a b) := by
  obtain ⟨m, hm, rfl⟩ := ha.nat
  obtain ⟨n, hn, rfl⟩ := hb.nat
  unfold impl_Times.f
  rw [wrap_id (by omega) (by omega)]
  have h := impl_Times.ev_l0 n hn 8 0 0 m rfl (by decide) hm
  exact ev_eq h (by unfold Gf.mul gm; simp)

theorem impl_power.ev_l0 : ∀ (N n : Nat) (a o : Int), n ≤ N → n < 4294967296 → Byte a → Byte o → Ev (fun k => impl_power.l0 k a (n : Int) o) (mul o (pow a n)) := by
  intro N
  induction N with
  | zero =>
    intro n a o hN hn ha ho
    obtain rfl : n = 0 := by omega
    refine Ev.step (fun k => impl_power.l0.eq_2 _ _ _ k) ?_
    exact ev_neg (by omega) (ev_now (by rw [pow_zero, mul_one ho]))
  | succ N ih =>
    intro n a o hN hn ha ho
    refine Ev.step (fun k => impl_power.l0.eq_2 _ _ _ k) ?_
    by_cases h0 : n = 0
    · subst h0
      exact ev_neg (by omega) (ev_now (by rw [pow_zero, mul_one ho]))
    refine ev_pos (by omega) ?_
    have e : ((n : Int) / 2) = ((n / 2 : Nat) : Int) := by omega
    have haa := Byte.mul ha a
    have hsq : pow (mul a a) (n / 2) = pow a (2 * (n / 2)) := by rw [pow_mul ha, pow_two ha]
    rw [and1_i64 hn, e]
    by_cases h1 : n % 2 = 1
    · refine ev_pos (by omega) ?_
      refine ev_bind (impl_Times.ev ho ha) (ev_bind (impl_Times.ev ha ha) ?_)
      refine ev_eq (ih (n / 2) _ _ (by omega) (by omega) haa (Byte.mul ho a)) ?_
      have hn2 : n = 1 + 2 * (n / 2) := by omega
      rw [hsq, mul_assoc ho ha (Byte.pow ha _)]
      conv => rhs; rw [hn2, pow_add ha, pow_one ha]
    · refine ev_neg (by omega) ?_
      refine ev_bind (impl_Times.ev ha ha) ?_
      refine ev_eq (ih (n / 2) _ _ (by omega) (by omega) haa ho) ?_
      have hn2 : n = 2 * (n / 2) := by omega
      rw [hsq, ← hn2]
theorem impl_power.ev {a : Int} (ha : Byte a) (n : Nat) (hn : n < 4294967296) : Ev (fun k => impl_power.f k a (n : Int)) (pow a n) := by
  unfold impl_power.f
  refine ev_eq (impl_power.ev_l0 n n a 1 (Nat.le_refl _) hn ha .one) ?_
  exact one_mul (Byte.pow ha n)

theorem impl_Msr_powers.ev_l0 {n : Int} (a j : Nat) (hg : GoodMsr n ((a + 1 : Nat) : Int)) : ∀ (d i : Nat) (o : List Int), i + d = a → o = (shortR a j).take i →
    Ev (fun k => impl_Msr_powers.l0 k (nodeX j) o (a : Int) (i : Int) n ((a + 1 : Nat) : Int)) (shortR a j, pow (nodeX j) a)
  | 0, i, o, hi, ho => by
    have e : ((a + 1 : Nat) : Int) - 1 = (a : Int) := by omega
    refine Ev.step (fun k => impl_Msr_powers.l0.eq_2 _ _ _ _ _ _ k) ?_
    refine ev_neg (by omega) ?_
    simp only [impl_Msr_alpha.ev hg, Option.bind_some, e]
    refine ev_bind (impl_power.ev (nodeX_byte j) a (by omega)) (ev_now ?_)
    rw [ho, List.take_of_length_le (by rw [shortR_length]; omega)]
  | d + 1, i, o, hi, ho => by
    have hl : o.length ≤ 3 := by rw [ho, List.length_take, shortR_length]; omega
    refine Ev.step (fun k => impl_Msr_powers.l0.eq_2 _ _ _ _ _ _ k) ?_
    refine ev_pos (by omega) ?_
    refine ev_bind (impl_power.ev (nodeX_byte j) i (by omega)) (ev_pos (by omega) ?_)
    rw [inc (by omega)]
    exact impl_Msr_powers.ev_l0 a j hg d (i + 1) _ (by omega) (by rw [shortR_succ a j i (by omega), ← ho])
theorem impl_Msr_powers.ev {n : Int} (a j : Nat) (hg : GoodMsr n ((a + 1 : Nat) : Int)) (hj : j < 1000000) : Ev (fun k => impl_Msr_powers.f k n ((a + 1 : Nat) : Int) (j : Int)) (shortR a j, pow (nodeX j) a) := by
  unfold impl_Msr_powers.f
  have e : ((a + 1 : Nat) : Int) - 1 = (a : Int) := by omega
  rw [inc (by omega)]
  refine ev_bind (impl_power.ev byte3 (j + 1) (by omega)) ?_
  simp only [impl_Msr_alpha.ev hg, Option.bind_some, e]
  exact impl_Msr_powers.ev_l0 a j hg a 0 [] (by omega) rfl

theorem impl_dot.ev_l0 (v w : List Int) (hv : Bytes v) (hw : Bytes w) (hl : v.length = w.length) (hs : v.length < 140737488355328) : ∀ (n i : Nat) (o : Int), i + n = v.length → Byte o →
    Ev (fun k => impl_dot.l0 k w o v (v.length : Int) (i : Int)) (gx o (dotV (v.drop i) (w.drop i)))
  | 0, i, o, hi, ho => by
    refine Ev.step (fun k => impl_dot.l0.eq_2 _ _ _ _ _ k) ?_
    refine ev_neg (by omega) (ev_now ?_)
    rw [List.drop_of_length_le (by omega)]
    exact (gx_zero ho).symm
  | n + 1, i, o, hi, ho => by
    refine Ev.step (fun k => impl_dot.l0.eq_2 _ _ _ _ _ k) ?_
    refine ev_pos (by omega) (ev_pos (by omega) (ev_pos (by omega) (ev_pos (by omega) ?_)))
    have bv : Byte (rd v (i : Int)) := bytes_rd hv (by omega)
    have bw : Byte (rd w (i : Int)) := bytes_rd hw (by omega)
    refine ev_bind (impl_Times.ev bv bw) ?_
    have bm := Byte.mul bv (rd w (i : Int))
    have bg := Byte.gx ho bm
    rw [inc (by omega), xor_u8 ho bm]
    refine ev_eq (impl_dot.ev_l0 v w hv hw hl hs n (i + 1) _ (by omega) bg) ?_
    rw [drop_cons (l := v) (i := i) (by omega), drop_cons (l := w) (i := i) (by omega), rd_get (by omega), rd_get (by omega), dotV, gx_assoc]
theorem impl_dot.ev {v w : List Int} (hv : Bytes v) (hw : Bytes w) (hl : v.length = w.length) (hs : v.length < 140737488355328) : Ev (fun k => impl_dot.f k v w) (dotV v w) := by
  unfold impl_dot.f
  refine ev_eq (impl_dot.ev_l0 v w hv hw hl hs v.length 0 0 (by omega) .zero) ?_
  exact zero_gx (dotV_byte hv)

theorem impl_HelpFor.ev_no (j x : Int) (n k : Int) (l : List Int) : Ev (fun q => impl_HelpFor.j0 q j true n k x l) (0, 0, false) :=
  Ev.step (fun q => impl_HelpFor.j0.eq_2 _ _ _ _ _ _ q) (ev_pos rfl (ev_now rfl))
theorem impl_HelpFor.ev (n k x : Int) {l : List Int} (hl : Bytes l) (j : Int) : Ev (fun q => impl_HelpFor.f q n k x l j) (helpVal n k x l j) := by
  unfold impl_HelpFor.f
  simp only [impl_Msr_isNode.ev, Option.bind_some, decide_eq_true_eq]
  by_cases h : GoodMsr n k ∧ 0 ≤ j ∧ j ≤ n - 1
  · refine ev_pos h ?_
    obtain ⟨h, h2⟩ := h
    simp only [impl_Msr_isPiece.ev h, Option.bind_some, decide_eq_true_eq]
    by_cases h1 : 0 ≤ x ∧ x ≤ n - 1 ∧ (l.length : Int) = k - 1
    · refine ev_pos h1 ?_
      by_cases h3 : j = x
      · have : (x == j) = true := by simpa using h3.symm
        rw [this]
        exact ev_eq (impl_HelpFor.ev_no _ _ _ _ _) (helpVal_no (fun z => z.2.2.2 h3)).symm
      · have : (x == j) = false := by simpa using fun z : x = j => h3 z.symm
        rw [this]
        refine Ev.step (fun q => impl_HelpFor.j0.eq_2 _ _ _ _ _ _ q) (ev_neg (by simp) ?_)
        unfold helpVal
        rw [if_pos ⟨h, h1, h2, h3⟩]
        obtain ⟨a, m, rfl, rfl, h4⟩ := GoodMsr_nat h
        obtain ⟨i, rfl⟩ := Int.eq_ofNat_of_zero_le h2.1
        have ea : (((a + 1 : Nat) : Int) - 1).toNat = a := by omega
        rw [ea, Int.toNat_natCast]
        refine ev_bind (impl_Msr_powers.ev a i h (by omega)) ?_
        exact ev_bind (impl_dot.ev hl (shortR_bytes a i) (by rw [shortR_length]; omega) (by omega)) (ev_now rfl)
    · exact ev_neg h1 (ev_eq (impl_HelpFor.ev_no _ _ _ _ _) (helpVal_no (fun z => h1 z.2.1)).symm)
  · exact ev_neg h (ev_eq (impl_HelpFor.ev_no _ _ _ _ _) (helpVal_no (fun z => h ⟨z.1, z.2.2.1⟩)).symm)

theorem laws_eqHelp.ev (a b : Int) : laws_eqHelp.f a b a b = some true := by
  unfold laws_eqHelp.f
  simp

theorem laws_eqByteS.ev_l0 (l : List Int) (hl : l.length < 4611686018427387904) : ∀ (n i : Nat), i + n = l.length → Ev (fun k => laws_eqByteS.l0 k l l (i : Int)) true
  | 0, i, hi => by
    refine Ev.step (fun k => laws_eqByteS.l0.eq_2 _ _ _ k) ?_
    exact ev_neg (by omega) (ev_now rfl)
  | n + 1, i, hi => by
    refine Ev.step (fun k => laws_eqByteS.l0.eq_2 _ _ _ k) ?_
    refine ev_pos (by omega) (ev_pos (by omega) (ev_pos (by omega) (ev_pos rfl ?_)))
    rw [inc (by omega)]
    exact laws_eqByteS.ev_l0 l hl n (i + 1) (by omega)
theorem laws_eqByteS.ev (l : List Int) (hl : l.length ≤ 281474976710656) : Ev (fun k => laws_eqByteS.f k l l) true := by
  unfold laws_eqByteS.f
  exact ev_pos rfl (laws_eqByteS.ev_l0 l (by omega) l.length 0 (by omega))

theorem laws_eqPiece.ev (x : Int) (l : List Int) (hl : l.length ≤ 281474976710656) : Ev (fun k => laws_eqPiece.f k x l x l) true := by
  unfold laws_eqPiece.f
  exact ev_pos rfl (ev_bind (laws_eqByteS.ev l hl) (ev_pos rfl (ev_now rfl)))

theorem FnExactHelpFor : ∀ (n k x : Int) (l : List Int) (j : Int), ((Lit.int .i64 n).wf = true ∧ (Lit.int .i64 k).wf = true) → ((Lit.int .i64 x).wf = true ∧ (l.length ≤ maxLen ∧ ∀ x ∈ l, (Lit.int .u8 x).wf = true)) → (Lit.int .i64 j).wf = true → ∃ q, laws_FnExactHelpFor.f q n k x l j = some true := by
  intro n k x l j _ hp _
  have hb := Bytes.of_wf hp.2.2
  refine Ev.rounds ?_
  unfold laws_FnExactHelpFor.f
  simp only [laws_szPiece.ev x l 1048576 hp.2.1 (by decide) (by decide), Option.bind_some]
  by_cases h : (l.length : Int) ≤ 1048576
  · rw [if_pos h]
    refine ev_neg (by omega) ?_
    simp only [laws_toMsr.ev, Option.bind_some]
    have ht := laws_toPiece.ev x l (by omega)
    refine ev_bind ht ?_
    refine ev_bind (spec_HelpFor.ev n k x hb j) ?_
    refine ev_bind ht ?_
    refine ev_bind (impl_HelpFor.ev n k x hb j) ?_
    simp only [laws_eqHelp.ev, Option.bind_some, bne_self_eq_false]
    refine ev_pos (by trivial) ?_
    refine Ev.step (fun q => laws_FnExactHelpFor.j0.eq_2 _ _ _ _ _ q) ?_
    refine ev_neg (by simp) ?_
    refine ev_bind ht ?_
    exact ev_bind (laws_eqPiece.ev x l (by omega)) (ev_pos rfl (ev_now rfl))
  · rw [if_neg h]
    exact ev_pos (by omega) (ev_now rfl)

end Go.Proofs.Ytggiajjnfldkgaa.Pure
