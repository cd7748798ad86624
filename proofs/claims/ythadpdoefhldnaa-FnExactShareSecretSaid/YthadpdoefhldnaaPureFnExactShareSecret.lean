/- The given program's ShareSecret returns what the reference's ShareSecret returns, for all secrets, coefficients and numbers, and keeps to itself what it was given and what it returns; there is no condition. -/
import Derived.Test.YthadpdoefhldnaaPFnExactShareSecretx4
import Derived.Test.YthadpdoefhldnaaKit
namespace Go.Proofs.Ythadpdoefhldnaa.Pure
open Go.RowKit Go.Proofs.Ythadpdoefhldnaa.PFnExactShareSecret Go.Proofs.YthadpdoefhldnaaW.PrintWords Go.Proofs.YthadpdoefhldnaaW.PrintLast Go.Proofs.Ythadpdoefhldnaa.Gf Go.Proofs.Ythadpdoefhldnaa.Kit
set_option linter.unusedVariables false
set_option linter.unusedSimpArgs false

theorem laws_toByteS.ev_l0 (l : List Int) (hl : l.length < 4611686018427387904) : ∀ (n i : Nat) (o : List Int), i + n = l.length → o.length = l.length → o.take i = l.take i →
    Ev (fun k => laws_toByteS.l0 k l o (i : Int)) l
  | 0, i, o, hi, ho, ht => by
    refine Ev.step (fun k => laws_toByteS.l0.eq_2 _ _ _ k) ?_
    refine ev_neg (by omega) (ev_now ?_)
    rw [List.take_of_length_le (by omega), List.take_of_length_le (by omega)] at ht
    exact ht
  | n + 1, i, o, hi, ho, ht => by
    refine Ev.step (fun k => laws_toByteS.l0.eq_2 _ _ _ k) ?_
    refine ev_pos (by omega) (ev_pos (by omega) (ev_pos (by omega) ?_))
    rw [inc (by omega), Int.toNat_natCast]
    refine laws_toByteS.ev_l0 l hl n (i + 1) _ (by omega) (by simpa using ho) ?_
    rw [take_set_succ _ _ _ (by omega), ht, List.take_succ_eq_append_getElem (by omega), rd_get (by omega)]
theorem laws_toByteS.ev (l : List Int) (hl : l.length ≤ 281474976710656) : Ev (fun k => laws_toByteS.f k l) l := by
  unfold laws_toByteS.f
  refine ev_pos (by omega) (ev_pos (by omega) ?_)
  exact laws_toByteS.ev_l0 l (by omega) l.length 0 _ (by omega) (by simp) rfl

theorem laws_eqByteS.ev_l0 (l : List Int) (hl : l.length < 4611686018427387904) : ∀ (n i : Nat), i + n = l.length → Ev (fun k => laws_eqByteS.l0 k l l (i : Int)) true
  | 0, i, hi => by
    refine Ev.step (fun k => laws_eqByteS.l0.eq_2 _ _ _ k) ?_
    exact ev_neg (by omega) (ev_now rfl)
  | n + 1, i, hi => by
    refine Ev.step (fun k => laws_eqByteS.l0.eq_2 _ _ _ k) ?_
    refine ev_pos (by omega) (ev_pos (by omega) (ev_pos (by omega) (ev_pos rfl ?_)))
    rw [inc (by omega)]
    exact laws_eqByteS.ev_l0 l hl n (i + 1) (by omega)
theorem laws_eqByteS.ev (l : List Int) (hl : l.length ≤ 281474976710656) : Ev (fun k => laws_eqByteS.f k l l) true := by
  unfold laws_eqByteS.f
  exact ev_pos rfl (laws_eqByteS.ev_l0 l (by omega) l.length 0 (by omega))

theorem laws_markByteS.ev_l0 (a : Int) (m : Nat) (ha : 0 ≤ a) (hm : a + m < 4611686018427387904) : ∀ (n i : Nat) (o : List Int), i + n = m → o.length = m → o.take i = (markB a m).take i →
    Ev (fun k => laws_markByteS.l0 k o (a + (i : Nat)) (i : Int)) (a + (m : Nat), markB a m)
  | 0, i, o, hi, ho, ht => by
    refine Ev.step (fun k => laws_markByteS.l0.eq_2 _ _ _ k) ?_
    refine ev_neg (by omega) (ev_now ?_)
    have hb := markB_length a m
    rw [List.take_of_length_le (by omega), List.take_of_length_le (by omega)] at ht
    subst ht
    have : i = m := by omega
    rw [this]
  | n + 1, i, o, hi, ho, ht => by
    refine Ev.step (fun k => laws_markByteS.l0.eq_2 _ _ _ k) ?_
    refine ev_pos (by omega) (ev_pos (by omega) ?_)
    have e : wrap64 (a + (i : Nat) + 1) = a + ((i + 1 : Nat) : Int) := by unfold wrap64; omega
    rw [inc (by omega), e, Int.toNat_natCast]
    refine laws_markByteS.ev_l0 a m ha hm n (i + 1) _ (by omega) (by simpa using ho) ?_
    have hb := markB_length a m
    rw [take_set_succ _ _ _ (by omega), ht, List.take_succ_eq_append_getElem (by omega), markB_get]
theorem laws_markByteS.ev (l : List Int) (a : Int) (ha : 0 ≤ a) (hm : a + l.length < 4611686018427387904) : Ev (fun k => laws_markByteS.f k l a) (a + (l.length : Nat), markB a l.length) := by
  unfold laws_markByteS.f
  have := laws_markByteS.ev_l0 a l.length ha hm l.length 0 l (by omega) rfl rfl
  simpa using this

theorem laws_eqShare.ev (x y : Int) : laws_eqShare.f x y x y = some true := by
  unfold laws_eqShare.f
  rw [if_pos rfl, if_pos rfl]

theorem laws_eqShareS.ev_l0 (l : List (S116)) (hl : l.length < 4611686018427387904) : ∀ (n i : Nat), i + n = l.length → Ev (fun k => laws_eqShareS.l0 k l l (i : Int)) true
  | 0, i, hi => by
    refine Ev.step (fun k => laws_eqShareS.l0.eq_2 _ _ _ k) ?_
    exact ev_neg (by omega) (ev_now rfl)
  | n + 1, i, hi => by
    refine Ev.step (fun k => laws_eqShareS.l0.eq_2 _ _ _ k) ?_
    simp only [laws_eqShare.ev, Option.bind_some]
    refine ev_pos (by omega) (ev_pos (by omega) (ev_pos (by omega) (ev_pos (by trivial) ?_)))
    rw [inc (by omega)]
    exact laws_eqShareS.ev_l0 l hl n (i + 1) (by omega)
theorem laws_eqShareS.ev (l : List (S116)) (hl : l.length ≤ 281474976710656) : Ev (fun k => laws_eqShareS.f k l l) true := by
  unfold laws_eqShareS.f
  exact ev_pos rfl (laws_eqShareS.ev_l0 l (by omega) l.length 0 (by omega))

def markSh (a : Int) (n : Nat) : List (S116) := (List.range n).map fun i => ⟨(a + 2 * (i : Nat)) % 256, (a + 2 * (i : Nat) + 1) % 256⟩
theorem markSh_length (a : Int) (n : Nat) : (markSh a n).length = n := by simp [markSh]
theorem rd_sh (l : List (S116)) (i : Nat) (h : i < l.length) : rd_T116 l (i : Int) = l[i] := by unfold rd_T116; simp [List.getD, h]
theorem laws_markShareS.ev_l0 (a : Int) (m : Nat) (ha : 0 ≤ a) (hm : a + 2 * m < 4611686018427387904) : ∀ (n i : Nat) (o : List (S116)), i + n = m → o.length = m → o.take i = (markSh a m).take i →
    Ev (fun k => laws_markShareS.l0 k o (a + 2 * (i : Nat)) (i : Int)) (a + 2 * (m : Nat), markSh a m)
  | 0, i, o, hi, ho, ht => by
    refine Ev.step (fun k => laws_markShareS.l0.eq_2 _ _ _ k) ?_
    refine ev_neg (by omega) (ev_now ?_)
    have hb := markSh_length a m
    rw [List.take_of_length_le (by omega), List.take_of_length_le (by omega)] at ht
    subst ht
    have : i = m := by omega
    rw [this]
  | n + 1, i, o, hi, ho, ht => by
    refine Ev.step (fun k => laws_markShareS.l0.eq_2 _ _ _ k) ?_
    refine ev_pos (by omega) (ev_pos (by omega) ?_)
    simp only [Option.bind_some]
    have e : wrap64 (a + 2 * (i : Nat) + 1) = a + 2 * (i : Nat) + 1 := by unfold wrap64; omega
    have e2 : wrap64 (a + 2 * (i : Nat) + 1 + 1) = a + 2 * ((i + 1 : Nat) : Int) := by unfold wrap64; omega
    rw [e, e2, inc (by omega), Int.toNat_natCast]
    refine laws_markShareS.ev_l0 a m ha hm n (i + 1) _ (by omega) (by simpa using ho) ?_
    have hb := markSh_length a m
    rw [List.take_succ_eq_append_getElem (by simp; omega), List.take_succ_eq_append_getElem (by omega), ← ht]
    simp [markSh, rd_T116, List.take_set_of_le, List.getD, show i < o.length by omega]
theorem laws_markShareS.ev (l : List (S116)) (a : Int) (ha : 0 ≤ a) (hm : a + 2 * l.length < 4611686018427387904) : Ev (fun k => laws_markShareS.f k l a) (a + 2 * (l.length : Nat), markSh a l.length) := by
  unfold laws_markShareS.f
  have := laws_markShareS.ev_l0 a l.length ha hm l.length 0 l (by omega) rfl rfl
  simpa using this

theorem laws_heldShareS.ev_l0 (a : Int) (m : Nat) (ha : 0 ≤ a) (hm : a + 2 * m < 4611686018427387904) : ∀ (n i : Nat), i + n = m →
    Ev (fun k => laws_heldShareS.l0 k (markSh a m) (a + 2 * (i : Nat)) (i : Int)) (a + 2 * (m : Nat))
  | 0, i, hi => by
    have hb := markSh_length a m
    refine Ev.step (fun k => laws_heldShareS.l0.eq_2 _ _ _ k) ?_
    refine ev_neg (by omega) (ev_now ?_)
    have : i = m := by omega
    rw [this]
  | n + 1, i, hi => by
    have hb := markSh_length a m
    refine Ev.step (fun k => laws_heldShareS.l0.eq_2 _ _ _ k) ?_
    have e : wrap64 (a + 2 * (i : Nat) + 1) = a + 2 * (i : Nat) + 1 := by unfold wrap64; omega
    have e2 : wrap64 (a + 2 * (i : Nat) + 1 + 1) = a + 2 * ((i + 1 : Nat) : Int) := by unfold wrap64; omega
    rw [e, e2, rd_sh _ _ (by omega), inc (by omega)]
    refine ev_pos (by omega) (ev_pos (by omega) (ev_pos (by simp [markSh]) (ev_pos (by simp [markSh]) ?_)))
    exact laws_heldShareS.ev_l0 a m ha hm n (i + 1) (by omega)
theorem laws_heldShareS.ev (a : Int) (m : Nat) (ha : 0 ≤ a) (hm : a + 2 * m < 4611686018427387904) : Ev (fun k => laws_heldShareS.f k (markSh a m) a) (a + 2 * (m : Nat)) := by
  unfold laws_heldShareS.f
  have := laws_heldShareS.ev_l0 a m ha hm m 0 (by omega)
  simpa using this

theorem spec_l1Times.ev_l0 : ∀ (n o x y : Nat), y < 2 ^ n → n ≤ 8 → o < 256 → x < 256 →
    Ev (fun k => spec_l1Times.l0 k (o : Int) (x : Int) (y : Int)) ((T n o x y : Nat) : Int)
  | 0, o, x, y, hy, _, ho, hx => by
    refine Ev.step (fun k => spec_l1Times.l0.eq_2 _ _ _ k) ?_
    have : y = 0 := by simpa using hy
    subst this
    refine ev_neg (by decide) (ev_now ?_)
    simp only [T]
    omega
  | n + 1, o, x, y, hy, hn, ho, hx => by
    have hy8 : y < 256 := Nat.lt_of_lt_of_le hy (Nat.pow_le_pow_right (n := 2) (by decide) hn)
    by_cases h0 : y = 0
    · subst h0
      refine Ev.step (fun k => spec_l1Times.l0.eq_2 _ _ _ k) ?_
      refine ev_neg (by decide) (ev_now ?_)
      rw [T_zero]
      omega
    refine Ev.step (fun k => spec_l1Times.l0.eq_2 _ _ _ k) ?_
    refine ev_pos (by omega) ?_
    have e2 : wrap64 ((x : Int) * 2) = ((2 * x : Nat) : Int) := by rw [wrap_id (by omega) (by omega)]; omega
    have e3 : ((y : Int) / 2) = ((y / 2 : Nat) : Int) := by omega
    have e4 : Go.bits .xor .i64 (o : Int) (x : Int) = ((o ^^^ x : Nat) : Int) := xor_i64 (by omega) (by omega)
    have e5 : Go.bits .xor .i64 ((2 * x : Nat) : Int) 283 = ((2 * x ^^^ 283 : Nat) : Int) := xor_i64 (m := 2 * x) (n := 283) (by omega) (by omega)
    rw [and1_i64 (by omega), e2, e3, e4, e5]
    have hT : T (n + 1) o x y = T n (if y % 2 = 1 then o ^^^ x else o) (xt x) (y / 2) := by rw [T]
    rw [hT]
    have hxt := xt_lt hx
    have hox := xor_lt ho hx
    have hh : y / 2 < 2 ^ n := by rw [Nat.pow_succ] at hy; omega
    by_cases h1 : y % 2 = 1
    · rw [if_pos h1]
      refine ev_pos (by omega) ?_
      by_cases h2 : 2 * x > 255
      · refine ev_pos (by omega) ?_
        have : xt x = 2 * x ^^^ 283 := by unfold xt; rw [if_pos h2]
        rw [this] at hxt ⊢
        exact spec_l1Times.ev_l0 n _ _ _ hh (by omega) hox hxt
      · refine ev_neg (by omega) ?_
        have : xt x = 2 * x := by unfold xt; rw [if_neg h2]
        rw [this] at hxt ⊢
        exact spec_l1Times.ev_l0 n _ _ _ hh (by omega) hox hxt
    · rw [if_neg h1]
      refine ev_neg (by omega) ?_
      by_cases h2 : 2 * x > 255
      · refine ev_pos (by omega) ?_
        have : xt x = 2 * x ^^^ 283 := by unfold xt; rw [if_pos h2]
        rw [this] at hxt ⊢
        exact spec_l1Times.ev_l0 n _ _ _ hh (by omega) ho hxt
      · refine ev_neg (by omega) ?_
        have : xt x = 2 * x := by unfold xt; rw [if_neg h2]
        rw [this] at hxt ⊢
        exact spec_l1Times.ev_l0 n _ _ _ hh (by omega) ho hxt
theorem spec_l1Times.ev {a b : Int} (ha : Byte a) (hb : Byte b) : Ev (fun k => spec_l1Times.f k a b) (mul a b) := by
  obtain ⟨m, hm, rfl⟩ := ha.nat
  obtain ⟨n, hn, rfl⟩ := hb.nat
  unfold spec_l1Times.f
  rw [wrap_id (i := (m : Int)) (by omega) (by omega), wrap_id (i := (n : Int)) (by omega) (by omega)]
  have h := spec_l1Times.ev_l0 8 0 m n hn (Nat.le_refl _) (by decide) hm
  exact ev_eq h (by unfold Gf.mul gm; simp)

theorem spec_l7At.ev_l0 (l : List Int) (hl : Bytes l) (x : Int) (hx : Byte x) (hs : l.length < 140737488355328) : ∀ (n : Nat) (o : Int), n ≤ l.length → o = polyAt (l.drop n) x →
    Ev (fun k => spec_l7At.l0 k l x o ((n : Int) - 1)) (polyAt l x)
  | 0, o, hn, ho => by
    refine Ev.step (fun k => spec_l7At.l0.eq_2 _ _ _ _ k) ?_
    refine ev_neg (by omega) (ev_now ?_)
    simpa using ho
  | n + 1, o, hn, ho => by
    have bo : Byte o := by rw [ho]; exact polyAt_byte (hl.drop _) hx
    refine Ev.step (fun k => spec_l7At.l0.eq_2 _ _ _ _ k) ?_
    have e : ((n + 1 : Nat) : Int) - 1 = (n : Int) := by omega
    rw [e]
    refine ev_pos (by omega) ?_
    refine ev_bind (spec_l1Times.ev bo hx) ?_
    refine ev_pos (by omega) (ev_pos (by omega) ?_)
    rw [dec (by omega), xor_u8 (Byte.mul bo x) (bytes_rd hl (by omega)), rd_get (by omega)]
    refine spec_l7At.ev_l0 l hl x hx hs n _ (by omega) ?_
    rw [drop_cons (l := l) (i := n) (by omega), ho]
    rfl
theorem spec_l7At.ev {l : List Int} (hl : Bytes l) {x : Int} (hx : Byte x) (hs : l.length < 140737488355328) : Ev (fun k => spec_l7At.f k l x) (polyAt l x) := by
  unfold spec_l7At.f
  have e : wrap64 ((l.length : Int) - 1) = (l.length : Int) - 1 := by unfold wrap64; omega
  rw [e]
  exact spec_l7At.ev_l0 l hl x hx hs l.length 0 (Nat.le_refl _) (by simp [polyAt])

theorem spec_l1In.ev (a b c : Int) : spec_l1In.f a b c = some (decide (b ≤ a ∧ a ≤ c)) := by
  unfold spec_l1In.f
  by_cases h : a ≥ b
  · rw [if_pos h]; simp [h]
  · rw [if_neg h]; simp; omega

def shareAt (l : List Int) (i : Nat) : S116 := ⟨((i + 1 : Nat) : Int), polyAt l ((i + 1 : Nat) : Int)⟩
def sharesOf (l : List Int) (n : Nat) : List (S116) := (List.range n).map (shareAt l)
theorem sharesOf_length (l : List Int) (n : Nat) : (sharesOf l n).length = n := by simp [sharesOf]
theorem sharesOf_succ (l : List Int) (n i : Nat) (h : i < n) : (sharesOf l n).take (i + 1) = (sharesOf l n).take i ++ [shareAt l i] := by
  rw [List.take_succ_eq_append_getElem (by rw [sharesOf_length]; exact h)]
  simp [sharesOf]
def secretVal (s : Int) (l : List Int) (n : Int) : List (S116) × Bool := if l.length ≤ 8 ∧ 1 ≤ n ∧ n ≤ 20 then (sharesOf (s :: l) n.toNat, true) else ([], false)
theorem spec_ShareSecret.ev_l0 (l : List Int) (hl : Bytes l) (hs : l.length ≤ 100) (n : Nat) (hn : n ≤ 20) : ∀ (d i : Nat) (o : List (S116)), i + d = n → o = (sharesOf l n).take i →
    Ev (fun k => spec_ShareSecret.l0 k (n : Int) l o ((i + 1 : Nat) : Int)) (sharesOf l n, true)
  | 0, i, o, hi, ho => by
    refine Ev.step (fun k => spec_ShareSecret.l0.eq_2 _ _ _ _ k) ?_
    refine ev_neg (by omega) (ev_now ?_)
    rw [ho, List.take_of_length_le (by rw [sharesOf_length]; omega)]
  | d + 1, i, o, hi, ho => by
    have hlen : o.length ≤ 20 := by rw [ho, List.length_take, sharesOf_length]; omega
    have e : (((i + 1 : Nat) : Int)) % 256 = ((i + 1 : Nat) : Int) := by omega
    refine Ev.step (fun k => spec_ShareSecret.l0.eq_2 _ _ _ _ k) ?_
    refine ev_pos (by omega) ?_
    rw [e]
    refine ev_bind (spec_l7At.ev hl (Byte.cast (by omega)) (by omega)) (ev_pos (by omega) ?_)
    rw [inc (by omega)]
    exact spec_ShareSecret.ev_l0 l hl hs n hn d (i + 1) _ (by omega) (by rw [sharesOf_succ l n i (by omega), ← ho]; rfl)
theorem spec_ShareSecret.ev {s : Int} (hs : Byte s) {l : List Int} (hl : Bytes l) (n : Int) : Ev (fun k => spec_ShareSecret.f k s l n) (secretVal s l n) := by
  unfold spec_ShareSecret.f secretVal
  by_cases h1 : l.length ≤ 8
  · refine ev_neg (by omega) ?_
    simp only [spec_l1In.ev, Option.bind_some]
    refine Ev.step (fun k => spec_ShareSecret.j0.eq_2 _ _ _ _ k) ?_
    by_cases h2 : 1 ≤ n ∧ n ≤ 20
    · refine ev_eq ?_ (if_pos ⟨h1, h2⟩).symm
      refine ev_neg (by simp [h2]) ?_
      simp only [Option.bind_some]
      refine ev_pos (by simp; omega) ?_
      obtain ⟨m, rfl⟩ := Int.eq_ofNat_of_zero_le (show 0 ≤ n by omega)
      exact spec_ShareSecret.ev_l0 (s :: l) (.cons hs hl) (by simp; omega) m (by omega) m 0 [] (by omega) rfl
    · exact ev_eq (ev_pos (by simp; omega) (ev_now rfl)) (if_neg (fun z => h2 z.2)).symm
  · refine ev_pos (by omega) ?_
    refine Ev.step (fun k => spec_ShareSecret.j0.eq_2 _ _ _ _ k) ?_
    exact ev_eq (ev_pos rfl (ev_now rfl)) (if_neg (fun z => h1 z.1)).symm

theorem impl_Times.ev_l0 (b : Nat) (hb : b < 256) : ∀ (n i o x : Nat), i + n = 8 → o < 256 → x < 256 →
    Ev (fun k => impl_Times.l0 k (b : Int) (o : Int) (i : Int) (x : Int)) ((T n o x (b / 2 ^ i) : Nat) : Int)
  | 0, i, o, x, hi, ho, hx => by
    refine Ev.step (fun k => impl_Times.l0.eq_2 _ _ _ _ k) ?_
    refine ev_neg (by omega) (ev_now ?_)
    simp only [T]
    omega
  | n + 1, i, o, x, hi, ho, hx => by
    refine Ev.step (fun k => impl_Times.l0.eq_2 _ _ _ _ k) ?_
    refine ev_pos (by omega) (ev_pos (by omega) ?_)
    have e1 : shr .u8 (b : Int) (i : Int) = ((b / 2 ^ i : Nat) : Int) := by
      unfold shr
      rw [Nat.min_eq_left (by simp only [IntKind.bits]; omega)]
      simp
    have hd : b / 2 ^ i < 256 := Nat.lt_of_le_of_lt (Nat.div_le_self _ _) hb
    have e2 : wrap64 ((x : Int) * 2) = ((2 * x : Nat) : Int) := by rw [wrap_id (by omega) (by omega)]; omega
    have e3 : wrap64 ((i : Int) + 1) = ((i + 1 : Nat) : Int) := by rw [wrap_id (by omega) (by omega)]; omega
    rw [e1, and1_u8 hd, e2, e3]
    have e4 : Go.bits .xor .i64 (o : Int) (x : Int) = ((o ^^^ x : Nat) : Int) := xor_i64 (by omega) (by omega)
    have e5 : Go.bits .xor .i64 ((2 * x : Nat) : Int) 283 = ((2 * x ^^^ 283 : Nat) : Int) := xor_i64 (m := 2 * x) (n := 283) (by omega) (by omega)
    have e6 : b / 2 ^ i / 2 = b / 2 ^ (i + 1) := by rw [Nat.div_div_eq_div_mul, Nat.pow_succ]
    rw [e4, e5]
    have hT : T (n + 1) o x (b / 2 ^ i) = T n (if b / 2 ^ i % 2 = 1 then o ^^^ x else o) (xt x) (b / 2 ^ (i + 1)) := by rw [T, e6]
    rw [hT]
    have hxt := xt_lt hx
    have hox := xor_lt ho hx
    by_cases h1 : b / 2 ^ i % 2 = 1
    · rw [if_pos h1]
      refine ev_pos (by omega) ?_
      by_cases h2 : 2 * x > 255
      · refine ev_pos (by omega) ?_
        have : xt x = 2 * x ^^^ 283 := by unfold xt; rw [if_pos h2]
        rw [this] at hxt ⊢
        exact impl_Times.ev_l0 b hb n (i + 1) _ _ (by omega) hox hxt
      · refine ev_neg (by omega) ?_
        have : xt x = 2 * x := by unfold xt; rw [if_neg h2]
        rw [this] at hxt ⊢
        exact impl_Times.ev_l0 b hb n (i + 1) _ _ (by omega) hox hxt
    · rw [if_neg h1]
      refine ev_neg (by omega) ?_
      by_cases h2 : 2 * x > 255
      · refine ev_pos (by omega) ?_
        have : xt x = 2 * x ^^^ 283 := by unfold xt; rw [if_pos h2]
        rw [this] at hxt ⊢
        exact impl_Times.ev_l0 b hb n (i + 1) _ _ (by omega) ho hxt
      · refine ev_neg (by omega) ?_
        have : xt x = 2 * x := by unfold xt; rw [if_neg h2]
        rw [this] at hxt ⊢
        exact impl_Times.ev_l0 b hb n (i + 1) _ _ (by omega) ho hxt
theorem impl_Times.ev {a b : Int} (ha : Byte a) (hb : Byte b) : Ev (fun k => impl_Times.f k a b) (mul a b) := by
  obtain ⟨m, hm, rfl⟩ := ha.nat
  obtain ⟨n, hn, rfl⟩ := hb.nat
  unfold impl_Times.f
  rw [wrap_id (by omega) (by omega)]
  have h := impl_Times.ev_l0 n hn 8 0 0 m rfl (by decide) hm
  exact ev_eq h (by unfold Gf.mul gm; simp)

theorem impl_valueAt.ev_l0 (l : List Int) (hl : Bytes l) (x : Int) (hx : Byte x) (hs : l.length < 140737488355328) : ∀ (n : Nat) (o : Int), n ≤ l.length → o = polyAt (l.drop n) x →
    Ev (fun k => impl_valueAt.l0 k l x o ((n : Int) - 1)) (polyAt l x)
  | 0, o, hn, ho => by
    refine Ev.step (fun k => impl_valueAt.l0.eq_2 _ _ _ _ k) ?_
    refine ev_neg (by omega) (ev_now ?_)
    simpa using ho
  | n + 1, o, hn, ho => by
    have bo : Byte o := by rw [ho]; exact polyAt_byte (hl.drop _) hx
    refine Ev.step (fun k => impl_valueAt.l0.eq_2 _ _ _ _ k) ?_
    have e : ((n + 1 : Nat) : Int) - 1 = (n : Int) := by omega
    rw [e]
    refine ev_pos (by omega) ?_
    refine ev_bind (impl_Times.ev bo hx) ?_
    refine ev_pos (by omega) (ev_pos (by omega) ?_)
    rw [dec (by omega), xor_u8 (Byte.mul bo x) (bytes_rd hl (by omega)), rd_get (by omega)]
    refine impl_valueAt.ev_l0 l hl x hx hs n _ (by omega) ?_
    rw [drop_cons (l := l) (i := n) (by omega), ho]
    rfl
theorem impl_valueAt.ev {l : List Int} (hl : Bytes l) {x : Int} (hx : Byte x) (hs : l.length < 140737488355328) : Ev (fun k => impl_valueAt.f k l x) (polyAt l x) := by
  unfold impl_valueAt.f
  have e : wrap64 ((l.length : Int) - 1) = (l.length : Int) - 1 := by unfold wrap64; omega
  rw [e]
  exact impl_valueAt.ev_l0 l hl x hx hs l.length 0 (Nat.le_refl _) (by simp [polyAt])

theorem impl_within.ev (a b c : Int) : impl_within.f a b c = some (decide (b ≤ a ∧ a ≤ c)) := by
  unfold impl_within.f
  by_cases h : a ≥ b
  · rw [if_pos h]; simp [h]
  · rw [if_neg h]; simp; omega

theorem impl_ShareSecret.ev_l0 (l : List Int) (hl : Bytes l) (hs : l.length ≤ 100) (n : Nat) (hn : n ≤ 20) : ∀ (d i : Nat) (o : List (S116)), i + d = n → o = (sharesOf l n).take i →
    Ev (fun k => impl_ShareSecret.l0 k l o (n : Int) (i : Int)) (sharesOf l n, true)
  | 0, i, o, hi, ho => by
    refine Ev.step (fun k => impl_ShareSecret.l0.eq_2 _ _ _ _ k) ?_
    refine ev_neg (by omega) (ev_now ?_)
    rw [ho, List.take_of_length_le (by rw [sharesOf_length]; omega)]
  | d + 1, i, o, hi, ho => by
    have hlen : o.length ≤ 20 := by rw [ho, List.length_take, sharesOf_length]; omega
    have e : (((i + 1 : Nat) : Int)) % 256 = ((i + 1 : Nat) : Int) := by omega
    refine Ev.step (fun k => impl_ShareSecret.l0.eq_2 _ _ _ _ k) ?_
    refine ev_pos (by omega) ?_
    rw [inc (by omega), e]
    refine ev_bind (impl_valueAt.ev hl (Byte.cast (by omega)) (by omega)) (ev_pos (by omega) ?_)
    exact impl_ShareSecret.ev_l0 l hl hs n hn d (i + 1) _ (by omega) (by rw [sharesOf_succ l n i (by omega), ← ho]; rfl)
theorem impl_ShareSecret.ev {s : Int} (hs : Byte s) {l : List Int} (hl : Bytes l) (n : Int) : Ev (fun k => impl_ShareSecret.f k s l n) (secretVal s l n) := by
  unfold impl_ShareSecret.f secretVal
  by_cases h1 : l.length ≤ 8
  · refine ev_neg (by omega) ?_
    simp only [impl_within.ev, Option.bind_some]
    refine Ev.step (fun k => impl_ShareSecret.j0.eq_2 _ _ _ _ k) ?_
    by_cases h2 : 1 ≤ n ∧ n ≤ 20
    · refine ev_eq ?_ (if_pos ⟨h1, h2⟩).symm
      refine ev_neg (by simp [h2]) ?_
      simp only [Option.bind_some]
      refine ev_pos (by simp; omega) ?_
      obtain ⟨m, rfl⟩ := Int.eq_ofNat_of_zero_le (show 0 ≤ n by omega)
      exact impl_ShareSecret.ev_l0 (s :: l) (.cons hs hl) (by simp; omega) m (by omega) m 0 [] (by omega) rfl
    · exact ev_eq (ev_pos (by simp; omega) (ev_now rfl)) (if_neg (fun z => h2 z.2)).symm
  · refine ev_pos (by omega) ?_
    refine Ev.step (fun k => impl_ShareSecret.j0.eq_2 _ _ _ _ k) ?_
    exact ev_eq (ev_pos rfl (ev_now rfl)) (if_neg (fun z => h1 z.1)).symm

theorem secretVal_len (s : Int) (l : List Int) (n : Int) : (secretVal s l n).1.length ≤ 20 := by
  unfold secretVal
  split
  · show (sharesOf _ _).length ≤ 20
    rw [sharesOf_length]; omega
  · simp
theorem FnExactShareSecret : ∀ (s : Int) (l : List Int) (n : Int), (Lit.int .u8 s).wf = true → (l.length ≤ maxLen ∧ ∀ x ∈ l, (Lit.int .u8 x).wf = true) → (Lit.int .i64 n).wf = true → ∃ k, laws_FnExactShareSecret.f k s l n = some true := by
  intro s l n hs hl _
  have bs := Byte.of_wf hs
  have bl := Bytes.of_wf hl.2
  clear hs hl
  refine Ev.rounds ?_
  unfold laws_FnExactShareSecret.f
  by_cases h1 : l.length > 1048576
  · exact ev_pos (by omega) (ev_now rfl)
  refine ev_neg (by omega) ?_
  have hs := spec_ShareSecret.ev bs bl n
  have hi := impl_ShareSecret.ev bs bl n
  have hz := secretVal_len s l n
  generalize secretVal s l n = rb at hs hi hz
  obtain ⟨r, b⟩ := rb
  have hz2 : r.length ≤ 20 := hz
  repeat first
    | exact ev_now rfl
    | refine ev_bind hs ?_
    | refine ev_bind hi ?_
    | refine ev_bind (laws_toByteS.ev _ (by omega)) ?_
    | refine ev_bind (laws_eqByteS.ev _ (by omega)) ?_
    | refine ev_bind (laws_markByteS.ev _ _ (by omega) (by omega)) ?_
    | refine ev_bind (laws_eqShareS.ev _ (by omega)) ?_
    | refine ev_bind (laws_markShareS.ev _ _ (by omega) (by omega)) ?_
    | refine ev_bind (laws_heldShareS.ev _ _ (by omega) (by omega)) ?_
    | refine Ev.step (fun k => laws_FnExactShareSecret.j0.eq_2 _ _ _ _ _ _ _ _ _ k) ?_
    | refine Ev.step (fun k => laws_FnExactShareSecret.j1.eq_2 _ _ _ _ _ _ _ k) ?_
    | refine Ev.step (fun k => laws_FnExactShareSecret.j2.eq_2 _ _ _ k) ?_
    | refine ev_pos rfl ?_
    | (refine ev_neg ?hc ?_; (case hc => first | omega | (simp; done) | (simp; omega)))
    | (refine ev_pos ?hc ?_; (case hc => first | omega | (simp; done)))

end Go.Proofs.Ythadpdoefhldnaa.Pure
