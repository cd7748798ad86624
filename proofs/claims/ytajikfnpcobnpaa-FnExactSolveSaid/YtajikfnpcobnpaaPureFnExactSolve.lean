/- The given program's Solve returns what the reference's Solve returns, for all matrices and vectors, leaves them as they were, and what it returns is its own; there is no condition. -/
import Derived.Test.YtajikfnpcobnpaaPFnExactSolvex
import Derived.Test.YtajikfnpcobnpaaWalkFnExactSolve
import Derived.Test.YtajikfnpcobnpaaVSolveKit
import Derived.Test.YtajikfnpcobnpaaVSolveTxt
namespace Go.Proofs.Ytajikfnpcobnpaa.Pure
open Go.RowKit Go.Proofs.Ytajikfnpcobnpaa.PFnExactSolve Go.Proofs.YtajikfnpcobnpaaW.PrintWords Go.Proofs.YtajikfnpcobnpaaW.PrintLast Go.Proofs.Ytajikfnpcobnpaa.Gf Go.Proofs.Ytajikfnpcobnpaa.Kit Go.Proofs.Ytajikfnpcobnpaa.KitW
open Go.Proofs.Ytajikfnpcobnpaa.KitN hiding idM_length
set_option linter.unusedVariables false
set_option linter.unusedSimpArgs false

theorem rdSS (l : List (List Int)) (i : Nat) (h : i < l.length) : rd_L1 l (i : Int) = l[i] := by unfold rd_L1; simp [List.getD, h]
theorem rdSS0 (l : List (List Int)) (i : Int) : rd_L1 l i = l.getD i.toNat [] := rfl
theorem laws_szByteS.ev (l : List Int) (a : Int) (hl : l.length ≤ maxLen) (h1 : 0 ≤ a) (h2 : a ≤ 1048576) : laws_szByteS.f l a = some (if (l.length : Int) ≤ a then a - (l.length : Int) else -1) := by
 unfold laws_szByteS.f
 unfold maxLen at hl
 have e : wrap64 (a - (l.length : Int)) = a - (l.length : Int) := by unfold wrap64; omega
 rw [e]
 by_cases h : (l.length : Int) ≤ a
 ·rw [if_neg (by omega), if_pos h]
 ·rw [if_pos (by omega), if_neg h]

theorem laws_szByteSS.ev_l0 (l : List (List Int)) (hl : l.length ≤ 1048576) (hr : ∀ r ∈ l, r.length ≤ maxLen) : ∀ (n i : Nat) (t : Int), i + n = l.length → 0 ≤ t → t ≤ 1048576 →
  Ev (fun k => laws_szByteSS.l0 k l t (i : Int)) (if (totSS (l.drop i) : Int) ≤ t then t - (totSS (l.drop i) : Int) else -1)
 | 0, i, t, hi, h0, h1 => by
  refine Ev.step (fun k => laws_szByteSS.l0.eq_2 _ _ _ k) ?_
  refine ev_neg (by omega) (ev_now ?_)
  rw [List.drop_of_length_le (by omega)]
  simp [totSS, h0]
 | n + 1, i, t, hi, h0, h1 => by
  have hlt : i < l.length := by omega
  have hm : i < 4611686018427387904 := by omega
  have he : totSS (l.drop i) = l[i].length + totSS (l.drop (i + 1)) := by rw [List.drop_eq_getElem_cons hlt]; rfl
  refine Ev.step (fun k => laws_szByteSS.l0.eq_2 _ _ _ k) ?_
  refine ev_pos (by omega) (ev_pos (by omega) ?_)
  rw [rdSS l i hlt, he]
  simp only [laws_szByteS.ev l[i] t (hr _ (List.getElem_mem hlt)) h0 h1, Option.bind_some]
  by_cases h : ((l[i]).length : Int) ≤ t
  ·rw [if_pos h]
   refine ev_neg (by omega) ?_
   rw [inc hm]
   refine ev_eq (laws_szByteSS.ev_l0 l hl hr n (i + 1) (t - ((l[i]).length : Int)) (by omega) (by omega) (by omega)) ?_
   by_cases h2 : (totSS (l.drop (i + 1)) : Int) ≤ t - ((l[i]).length : Int)
   ·rw [if_pos h2, if_pos (by omega)]; omega
   ·rw [if_neg h2, if_neg (by omega)]
  ·rw [if_neg h]
   refine ev_pos (by omega) (ev_now ?_)
   rw [if_neg (by omega)]
theorem laws_szByteSS.ev (l : List (List Int)) (hl : l.length ≤ maxLen) (hr : ∀ r ∈ l, r.length ≤ maxLen) (t : Int) (h0 : 0 ≤ t) (h1 : t ≤ 1048576) :
  Ev (fun k => laws_szByteSS.f k l t) (if (l.length : Int) + (totSS l : Int) ≤ t then t - (l.length : Int) - (totSS l : Int) else -1) := by
 unfold laws_szByteSS.f
 have e : wrap64 (t - (l.length : Int)) = t - (l.length : Int) := by unfold maxLen at hl; unfold wrap64; omega
 rw [e]
 by_cases h : (l.length : Int) ≤ t
 ·refine ev_neg (by omega) (ev_eq (laws_szByteSS.ev_l0 l (by omega) hr l.length 0 _ (by omega) (by omega) (by omega)) ?_)
  rw [List.drop_zero]
  by_cases h2 : (totSS l : Int) ≤ t - (l.length : Int)
  ·rw [if_pos h2, if_pos (by omega)]
  ·rw [if_neg h2, if_neg (by omega)]
 ·refine ev_pos (by omega) (ev_now ?_)
  rw [if_neg (by omega)]
theorem mem_totSS {l : List (List Int)} {r : List Int} (h : r ∈ l) : r.length ≤ totSS l := by
 induction l with
 | nil => simp at h
 | cons x l ih =>
  rcases List.mem_cons.1 h with rfl | h
  ·simp [totSS]
  ·have := ih h; simp only [totSS]; omega
theorem rowsLe_of {l : List (List Int)} (h : (l.length : Int) + (totSS l : Int) ≤ 1048576) : rowsLe 1048576 l := ⟨by omega, fun r hr => by have := mem_totSS hr; omega⟩

theorem laws_szMatrix.ev (l : List (List Int)) (hl : l.length ≤ maxLen) (hr : ∀ r ∈ l, r.length ≤ maxLen) (t : Int) (h0 : 0 ≤ t) (h1 : t ≤ 1048576) :
  Ev (fun k => laws_szMatrix.f k l t) (if (l.length : Int) + (totSS l : Int) ≤ t then t - (l.length : Int) - (totSS l : Int) else -1) := by
 unfold laws_szMatrix.f
 refine ev_bind (laws_szByteSS.ev l hl hr t h0 h1) ?_
 by_cases h : (l.length : Int) + (totSS l : Int) ≤ t
 ·rw [if_pos h]; exact ev_neg (by omega) (ev_now rfl)
 ·rw [if_neg h]; exact ev_pos (by omega) (ev_now rfl)

theorem laws_toByteS.ev_l0 (l : List Int) (hl : l.length < 4611686018427387904) : ∀ (n i : Nat) (o : List Int), i + n = l.length → o.length = l.length → o.take i = l.take i →
  Ev (fun k => laws_toByteS.l0 k l o (i : Int)) l
 | 0, i, o, hi, ho, ht => by
  refine Ev.step (fun k => laws_toByteS.l0.eq_2 _ _ _ k) ?_
  refine ev_neg (by omega) (ev_now ?_)
  rw [List.take_of_length_le (by omega), List.take_of_length_le (by omega)] at ht
  exact ht
 | n + 1, i, o, hi, ho, ht => by
  refine Ev.step (fun k => laws_toByteS.l0.eq_2 _ _ _ k) ?_
  refine ev_pos (by omega) (ev_pos (by omega) (ev_pos (by omega) ?_))
  rw [inc (by omega), Int.toNat_natCast]
  refine laws_toByteS.ev_l0 l hl n (i + 1) _ (by omega) (by simpa using ho) ?_
  rw [take_set_succ _ _ _ (by omega), ht, List.take_succ_eq_append_getElem (by omega), rd_get (by omega)]
theorem laws_toByteS.ev (l : List Int) (hl : l.length ≤ 281474976710656) : Ev (fun k => laws_toByteS.f k l) l := by
 unfold laws_toByteS.f
 refine ev_pos (by omega) (ev_pos (by omega) ?_)
 exact laws_toByteS.ev_l0 l (by omega) l.length 0 _ (by omega) (by simp) rfl

theorem laws_toByteSS.ev_l0 (l : List (List Int)) (hl : rowsLe 1048576 l) : ∀ (n i : Nat) (o : List (List Int)), i + n = l.length → o.length = l.length → o.take i = l.take i →
  Ev (fun k => laws_toByteSS.l0 k l o (i : Int)) l
 | 0, i, o, hi, ho, ht => by
  refine Ev.step (fun k => laws_toByteSS.l0.eq_2 _ _ _ k) ?_
  refine ev_neg (by omega) (ev_now ?_)
  rw [List.take_of_length_le (by omega), List.take_of_length_le (by omega)] at ht
  exact ht
 | n + 1, i, o, hi, ho, ht => by
  have h1 := hl.1
  have h2 := hl.2 _ (List.getElem_mem (show i < l.length by omega))
  refine Ev.step (fun k => laws_toByteSS.l0.eq_2 _ _ _ k) ?_
  refine ev_pos (by omega) (ev_pos (by omega) ?_)
  rw [rdSS l i (by omega)]
  refine ev_bind (laws_toByteS.ev _ (by omega)) (ev_pos (by omega) ?_)
  rw [inc (by omega), Int.toNat_natCast]
  refine laws_toByteSS.ev_l0 l hl n (i + 1) _ (by omega) (by simpa using ho) ?_
  have hs : (o.set i l[i]).take (i + 1) = o.take i ++ [l[i]] := by
   rw [List.take_succ_eq_append_getElem (by simp; omega)]
   simp [List.take_set_of_le]
  rw [hs, ht, List.take_succ_eq_append_getElem (by omega)]
theorem laws_toByteSS.ev (l : List (List Int)) (hl : rowsLe 1048576 l) : Ev (fun k => laws_toByteSS.f k l) l := by
 unfold laws_toByteSS.f
 have h1 := hl.1
 refine ev_pos (by omega) (ev_pos (by omega) ?_)
 exact laws_toByteSS.ev_l0 l hl l.length 0 _ (by omega) (by simp) rfl

theorem laws_toMatrix.ev (l : List (List Int)) (hl : rowsLe 1048576 l) : Ev (fun k => laws_toMatrix.f k l) l := by
 unfold laws_toMatrix.f
 exact ev_bind (laws_toByteSS.ev l hl) (ev_now rfl)

theorem laws_eqByteS.ev_l0 (l : List Int) (hl : l.length < 4611686018427387904) : ∀ (n i : Nat), i + n = l.length → Ev (fun k => laws_eqByteS.l0 k l l (i : Int)) true
 | 0, i, hi => by
  refine Ev.step (fun k => laws_eqByteS.l0.eq_2 _ _ _ k) ?_
  exact ev_neg (by omega) (ev_now rfl)
 | n + 1, i, hi => by
  refine Ev.step (fun k => laws_eqByteS.l0.eq_2 _ _ _ k) ?_
  refine ev_pos (by omega) (ev_pos (by omega) (ev_pos (by omega) (ev_pos rfl ?_)))
  rw [inc (by omega)]
  exact laws_eqByteS.ev_l0 l hl n (i + 1) (by omega)
theorem laws_eqByteS.ev (l : List Int) (hl : l.length ≤ 281474976710656) : Ev (fun k => laws_eqByteS.f k l l) true := by
 unfold laws_eqByteS.f
 exact ev_pos rfl (laws_eqByteS.ev_l0 l (by omega) l.length 0 (by omega))

theorem laws_eqByteSS.ev_l0 (l : List (List Int)) (hl : rowsLe 1048576 l) : ∀ (n i : Nat), i + n = l.length → Ev (fun k => laws_eqByteSS.l0 k l l (i : Int)) true
 | 0, i, hi => by
  refine Ev.step (fun k => laws_eqByteSS.l0.eq_2 _ _ _ k) ?_
  exact ev_neg (by omega) (ev_now rfl)
 | n + 1, i, hi => by
  have h1 := hl.1
  have h2 := hl.2 _ (List.getElem_mem (show i < l.length by omega))
  refine Ev.step (fun k => laws_eqByteSS.l0.eq_2 _ _ _ k) ?_
  refine ev_pos (by omega) (ev_pos (by omega) (ev_pos (by omega) ?_))
  rw [rdSS l i (by omega), inc (by omega)]
  exact ev_bind (laws_eqByteS.ev _ (by omega)) (ev_pos rfl (laws_eqByteSS.ev_l0 l hl n (i + 1) (by omega)))
theorem laws_eqByteSS.ev (l : List (List Int)) (hl : rowsLe 1048576 l) : Ev (fun k => laws_eqByteSS.f k l l) true := by
 unfold laws_eqByteSS.f
 exact ev_pos rfl (laws_eqByteSS.ev_l0 l hl l.length 0 (by omega))

theorem laws_eqMatrix.ev (l : List (List Int)) (hl : rowsLe 1048576 l) : Ev (fun k => laws_eqMatrix.f k l l) true := by
 unfold laws_eqMatrix.f
 exact ev_bind (laws_eqByteSS.ev l hl) (ev_pos rfl (ev_now rfl))

theorem laws_markByteS.ev_l0 (a : Int) (m : Nat) (ha : 0 ≤ a) (hm : a + m < 4611686018427387904) : ∀ (n i : Nat) (o : List Int), i + n = m → o.length = m → o.take i = (markB a m).take i →
  Ev (fun k => laws_markByteS.l0 k o (a + (i : Nat)) (i : Int)) (a + (m : Nat), markB a m)
 | 0, i, o, hi, ho, ht => by
  refine Ev.step (fun k => laws_markByteS.l0.eq_2 _ _ _ k) ?_
  refine ev_neg (by omega) (ev_now ?_)
  have hb := markB_length a m
  rw [List.take_of_length_le (by omega), List.take_of_length_le (by omega)] at ht
  subst ht
  have : i = m := by omega
  rw [this]
 | n + 1, i, o, hi, ho, ht => by
  refine Ev.step (fun k => laws_markByteS.l0.eq_2 _ _ _ k) ?_
  refine ev_pos (by omega) (ev_pos (by omega) ?_)
  have e : wrap64 (a + (i : Nat) + 1) = a + ((i + 1 : Nat) : Int) := by unfold wrap64; omega
  rw [inc (by omega), e, Int.toNat_natCast]
  refine laws_markByteS.ev_l0 a m ha hm n (i + 1) _ (by omega) (by simpa using ho) ?_
  have hb := markB_length a m
  rw [take_set_succ _ _ _ (by omega), ht, List.take_succ_eq_append_getElem (by omega), markB_get]
theorem laws_markByteS.ev (l : List Int) (a : Int) (ha : 0 ≤ a) (hm : a + l.length < 4611686018427387904) : Ev (fun k => laws_markByteS.f k l a) (a + (l.length : Nat), markB a l.length) := by
 unfold laws_markByteS.f
 have := laws_markByteS.ev_l0 a l.length ha hm l.length 0 l (by omega) rfl rfl
 simpa using this

theorem spec_l1Add.ev_l0 (v w : List Int) (hv : Bytes v) (hw : Bytes w) (hl : v.length = w.length) (hs : v.length < 140737488355328) : ∀ (n i : Nat) (o : List Int), i + n = v.length → o = (addV v w).take i →
  Ev (fun k => spec_l1Add.l0 k v w o (v.length : Int) (i : Int)) (addV v w)
 | 0, i, o, hi, ho => by
  refine Ev.step (fun k => spec_l1Add.l0.eq_2 _ _ _ _ _ k) ?_
  refine ev_neg (by omega) (ev_now ?_)
  subst ho
  rw [List.take_of_length_le (by rw [addV_length]; omega)]
 | n + 1, i, o, hi, ho => by
  have hz := addV_length v w
  have hlen : o.length = i := by rw [ho, List.length_take, hz]; omega
  refine Ev.step (fun k => spec_l1Add.l0.eq_2 _ _ _ _ _ k) ?_
  refine ev_pos (by omega) (ev_pos (by omega) (ev_pos (by omega) (ev_pos (by omega) (ev_pos (by omega) ?_))))
  rw [inc (by omega), xor_u8 (bytes_rd hv (by omega)) (bytes_rd hw (by omega)), rd_get (by omega), rd_get (by omega)]
  refine spec_l1Add.ev_l0 v w hv hw hl hs n (i + 1) _ (by omega) ?_
  rw [List.take_succ_eq_append_getElem (by omega), ← ho]
  simp [addV]
theorem spec_l1Add.ev {v w : List Int} (hv : Bytes v) (hw : Bytes w) (hl : v.length = w.length) (hs : v.length < 140737488355328) : Ev (fun k => spec_l1Add.f k v w) (addV v w) := by
 unfold spec_l1Add.f
 exact spec_l1Add.ev_l0 v w hv hw hl hs v.length 0 [] (by omega) rfl

theorem spec_l1Times.ev_l0 : ∀ (n o x y : Nat), y < 2 ^ n → n ≤ 8 → o < 256 → x < 256 →
  Ev (fun k => spec_l1Times.l0 k (o : Int) (x : Int) (y : Int)) ((T n o x y : Nat) : Int)
 | 0, o, x, y, hy, _, ho, hx => by
  refine Ev.step (fun k => spec_l1Times.l0.eq_2 _ _ _ k) ?_
  have : y = 0 := by simpa using hy
  subst this
  refine ev_neg (by decide) (ev_now ?_)
  simp only [T]
  omega
 | n + 1, o, x, y, hy, hn, ho, hx => by
  have hy8 : y < 256 := Nat.lt_of_lt_of_le hy (Nat.pow_le_pow_right (n := 2) (by decide) hn)
  by_cases h0 : y = 0
  ·subst h0
   refine Ev.step (fun k => spec_l1Times.l0.eq_2 _ _ _ k) ?_
   refine ev_neg (by decide) (ev_now ?_)
   rw [T_zero]
   omega
  refine Ev.step (fun k => spec_l1Times.l0.eq_2 _ _ _ k) ?_
  refine ev_pos (by omega) ?_
  have e2 : wrap64 ((x : Int) * 2) = ((2 * x : Nat) : Int) := by rw [wrap_id (by omega) (by omega)]; omega
  have e3 : ((y : Int) / 2) = ((y / 2 : Nat) : Int) := by omega
  have e4 : Go.bits .xor .i64 (o : Int) (x : Int) = ((o ^^^ x : Nat) : Int) := xor_i64 (by omega) (by omega)
  have e5 : Go.bits .xor .i64 ((2 * x : Nat) : Int) 283 = ((2 * x ^^^ 283 : Nat) : Int) := xor_i64 (m := 2 * x) (n := 283) (by omega) (by omega)
  rw [and1_i64 (by omega), e2, e3, e4, e5]
  have hT : T (n + 1) o x y = T n (if y % 2 = 1 then o ^^^ x else o) (xt x) (y / 2) := by rw [T]
  rw [hT]
  have hxt := xt_lt hx
  have hox := xor_lt ho hx
  have hh : y / 2 < 2 ^ n := by rw [Nat.pow_succ] at hy; omega
  by_cases h1 : y % 2 = 1
  ·rw [if_pos h1]
   refine ev_pos (by omega) ?_
   by_cases h2 : 2 * x > 255
   ·refine ev_pos (by omega) ?_
    have : xt x = 2 * x ^^^ 283 := by unfold xt; rw [if_pos h2]
    rw [this] at hxt ⊢
    exact spec_l1Times.ev_l0 n _ _ _ hh (by omega) hox hxt
   ·refine ev_neg (by omega) ?_
    have : xt x = 2 * x := by unfold xt; rw [if_neg h2]
    rw [this] at hxt ⊢
    exact spec_l1Times.ev_l0 n _ _ _ hh (by omega) hox hxt
  ·rw [if_neg h1]
   refine ev_neg (by omega) ?_
   by_cases h2 : 2 * x > 255
   ·refine ev_pos (by omega) ?_
    have : xt x = 2 * x ^^^ 283 := by unfold xt; rw [if_pos h2]
    rw [this] at hxt ⊢
    exact spec_l1Times.ev_l0 n _ _ _ hh (by omega) ho hxt
   ·refine ev_neg (by omega) ?_
    have : xt x = 2 * x := by unfold xt; rw [if_neg h2]
    rw [this] at hxt ⊢
    exact spec_l1Times.ev_l0 n _ _ _ hh (by omega) ho hxt
theorem spec_l1Times.ev {a b : Int} (ha : Byte a) (hb : Byte b) : Ev (fun k => spec_l1Times.f k a b) (mul a b) := by
 obtain ⟨m, hm, rfl⟩ := ha.nat
 obtain ⟨n, hn, rfl⟩ := hb.nat
 unfold spec_l1Times.f
 rw [wrap_id (i := (m : Int)) (by omega) (by omega), wrap_id (i := (n : Int)) (by omega) (by omega)]
 have h := spec_l1Times.ev_l0 8 0 m n hn (Nat.le_refl _) (by decide) hm
 exact ev_eq h (by unfold Gf.mul gm; simp)

theorem spec_l1Scale.ev_l0 (a : Int) (ha : Byte a) (v : List Int) (hv : Bytes v) (hs : v.length < 140737488355328) : ∀ (n i : Nat) (o : List Int), i + n = v.length → o = (scale a v).take i →
  Ev (fun k => spec_l1Scale.l0 k a o v (v.length : Int) (i : Int)) (scale a v)
 | 0, i, o, hi, ho => by
  refine Ev.step (fun k => spec_l1Scale.l0.eq_2 _ _ _ _ _ k) ?_
  refine ev_neg (by omega) (ev_now ?_)
  subst ho
  rw [List.take_of_length_le (by rw [scale_length]; omega)]
 | n + 1, i, o, hi, ho => by
  have hz := scale_length a v
  have hlen : o.length = i := by rw [ho, List.length_take, hz]; omega
  refine Ev.step (fun k => spec_l1Scale.l0.eq_2 _ _ _ _ _ k) ?_
  refine ev_pos (by omega) (ev_pos (by omega) (ev_pos (by omega) ?_))
  refine ev_bind (spec_l1Times.ev ha (bytes_rd hv (by omega))) ?_
  refine ev_pos (by omega) ?_
  rw [inc (by omega), rd_get (by omega)]
  refine spec_l1Scale.ev_l0 a ha v hv hs n (i + 1) _ (by omega) ?_
  rw [List.take_succ_eq_append_getElem (by omega), ← ho]
  simp [scale]
theorem spec_l1Scale.ev {a : Int} (ha : Byte a) {v : List Int} (hv : Bytes v) (hs : v.length < 140737488355328) : Ev (fun k => spec_l1Scale.f k a v) (scale a v) := by
 unfold spec_l1Scale.f
 exact spec_l1Scale.ev_l0 a ha v hv hs v.length 0 [] (by omega) rfl

theorem spec_l2Own.ev_l0 (l : List (List Int)) (hl : l.length ≤ 1048576) (hr : ∀ r ∈ l, r.length ≤ 1048576) : ∀ (d i : Nat) (o : List (List Int)), i + d = l.length → o = l.take i → Ev (fun k => spec_l2Own.l0 k l (l.length : Int) (i : Int) o) l
 | 0, i, o, hi, ho => by
  refine Ev.step (fun k => spec_l2Own.l0.eq_2 _ _ _ _ k) ?_
  refine ev_neg (by omega) (ev_now ?_)
  rw [ho, List.take_of_length_le (by omega)]
 | d + 1, i, o, hi, ho => by
  have hol : o.length = i := by rw [ho, List.length_take]; omega
  have hrl : (l.getD i []).length ≤ 1048576 := by
   rw [List.getD_eq_getElem?_getD, List.getElem?_eq_getElem (show i < l.length by omega)]
   exact hr _ (List.getElem_mem _)
  refine Ev.step (fun k => spec_l2Own.l0.eq_2 _ _ _ _ k) ?_
  simp only [Option.bind_some]
  refine ev_pos (by omega) (ev_pos (by omega) (ev_pos (by omega) (ev_pos (show ([] : List Int).length + (l.getD i []).length < 140737488355328 by simp only [List.length_nil]; omega) (ev_pos (by omega) ?_))))
  rw [inc (by omega)]
  refine spec_l2Own.ev_l0 l hl hr d (i + 1) _ (by omega) ?_
  rw [List.take_succ_eq_append_getElem (show i < l.length by omega), ← ho, show l[i]'(by omega) = l.getD i [] by rw [List.getD_eq_getElem?_getD, List.getElem?_eq_getElem (show i < l.length by omega)]; rfl]
  rfl
theorem spec_l2Own.ev (l : List (List Int)) (hl : l.length ≤ 1048576) (hr : ∀ r ∈ l, r.length ≤ 1048576) : Ev (fun k => spec_l2Own.f k l) l := by
 unfold spec_l2Own.f
 exact spec_l2Own.ev_l0 l hl hr l.length 0 [] (by omega) rfl

theorem spec_l1Power.ev_l0 (a : Int) (ha : Byte a) : ∀ (n m : Nat), n < 4611686018427387904 → Ev (fun k => spec_l1Power.l0 k a (n : Int) (pow a m)) (pow a (m + n))
 | 0, m, _ => by
  refine Ev.step (fun k => spec_l1Power.l0.eq_2 _ _ _ k) ?_
  exact ev_neg (by omega) (ev_now rfl)
 | n + 1, m, hn => by
  refine Ev.step (fun k => spec_l1Power.l0.eq_2 _ _ _ k) ?_
  refine ev_pos (by omega) ?_
  refine ev_bind (spec_l1Times.ev (Byte.pow ha m) ha) ?_
  have e : wrap64 (((n + 1 : Nat) : Int) - 1) = (n : Int) := by unfold wrap64; omega
  rw [e, ← pow_succ]
  refine ev_eq (spec_l1Power.ev_l0 a ha n (m + 1) (by omega)) ?_
  rw [Nat.add_right_comm, Nat.add_assoc]
theorem spec_l1Power.ev {a : Int} (ha : Byte a) (n : Nat) (hn : n < 4611686018427387904) : Ev (fun k => spec_l1Power.f k a (n : Int)) (pow a n) := by
 unfold spec_l1Power.f
 have := spec_l1Power.ev_l0 a ha n 0 hn
 rw [pow_zero, Nat.zero_add] at this
 exact this

theorem spec_l1Inverse.ev {a : Int} (ha : Byte a) : Ev (fun k => spec_l1Inverse.f k a) (inv a) := by
 unfold spec_l1Inverse.f
 by_cases h : a = 0
 ·subst h
  exact ev_pos rfl (ev_now inv_zero.symm)
 ·exact ev_neg h (ev_bind (spec_l1Power.ev ha 254 (by decide)) (ev_now (inv_pow a).symm))

theorem spec_l2Blank.ev_l0 (n m : Nat) (hn : n ≤ 1048576) (hm : m ≤ 1048576) : ∀ (d i : Nat), i + d = n → Ev (fun k => spec_l2Blank.l0 k (n : Int) (m : Int) (i : Int) (blankM i m)) (blankM n m)
 | 0, i, hi => by
  obtain rfl : i = n := by omega
  refine Ev.step (fun k => spec_l2Blank.l0.eq_2 _ _ _ _ k) ?_
  exact ev_neg (by omega) (ev_now rfl)
 | d + 1, i, hi => by
  have ih := spec_l2Blank.ev_l0 n m hn hm d (i + 1) (by omega)
  refine Ev.step (fun k => spec_l2Blank.l0.eq_2 _ _ _ _ k) ?_
  refine ev_pos (by omega) (ev_pos (by omega) (ev_pos (by omega) (ev_pos (by simp [blankM]; omega) ?_)))
  rw [inc (by omega), Int.toNat_natCast]
  have e : blankM i m ++ [List.replicate m 0] = blankM (i + 1) m := by
   unfold blankM; rw [List.replicate_succ']
  rw [e]
  exact ih
theorem spec_l2Blank.ev (n m : Nat) (hn : n ≤ 1048576) (hm : m ≤ 1048576) : Ev (fun k => spec_l2Blank.f k (n : Int) (m : Int)) (blankM n m) := by
 unfold spec_l2Blank.f
 exact spec_l2Blank.ev_l0 n m hn hm n 0 (by omega)

def idPart (n i : Nat) : List (List Int) := (List.range n).map fun j => if j < i then (List.replicate n 0).set j 1 else List.replicate n 0
theorem idPart_length (n i : Nat) : (idPart n i).length = n := by simp [idPart]
theorem idPart_zero (n : Nat) : idPart n 0 = blankM n n := by
 apply List.ext_getElem
 ·simp [idPart, blankM]
 ·intro j h1 h2; simp [idPart, blankM]
theorem idPart_all (n : Nat) : idPart n n = idM n := by
 apply List.ext_getElem
 ·simp [idPart, idM]
 ·intro j h1 h2
  have : j < n := by simpa [idPart] using h1
  simp [idPart, idM, this]
theorem idPart_succ (n i : Nat) (hi : i < n) : (idPart n i).set i ((List.replicate n 0).set i 1) = idPart n (i + 1) := by
 apply List.ext_getElem
 ·simp [idPart]
 ·intro j h1 h2
  rw [List.getElem_set]
  by_cases e : i = j
  ·subst e
   simp [idPart]
  ·rw [if_neg e]
   simp only [idPart, List.getElem_map, List.getElem_range]
   by_cases h : j < i
   ·rw [if_pos h, if_pos (by omega)]
   ·rw [if_neg h, if_neg (by omega)]
theorem spec_l2Identity.ev_l0 (n : Nat) (hn : n ≤ 1048576) : ∀ (d i : Nat), i + d = n → Ev (fun k => spec_l2Identity.l0 k (n : Int) (i : Int) (idPart n i)) (idM n)
 | 0, i, hi => by
  obtain rfl : i = n := by omega
  refine Ev.step (fun k => spec_l2Identity.l0.eq_2 _ _ _ k) ?_
  exact ev_neg (by omega) (ev_now (idPart_all i))
 | d + 1, i, hi => by
  have hl := idPart_length n i
  have hg : rd_L1 (idPart n i) (i : Int) = List.replicate n 0 := by
   rw [rdSS _ i (by omega)]
   simp [idPart]
  have ih := spec_l2Identity.ev_l0 n hn d (i + 1) (by omega)
  refine Ev.step (fun k => spec_l2Identity.l0.eq_2 _ _ _ k) ?_
  rw [hg]
  refine ev_pos (by omega) (ev_pos (by omega) (ev_pos (by omega) (ev_pos (by simp; omega) ?_)))
  rw [inc (by omega), Int.toNat_natCast, idPart_succ n i (by omega)]
  exact ih
theorem spec_l2Identity.ev (n : Nat) (hn : n ≤ 1048576) : Ev (fun k => spec_l2Identity.f k (n : Int)) (idM n) := by
 unfold spec_l2Identity.f
 refine ev_bind (spec_l2Blank.ev n n hn hn) ?_
 have e : ((blankM n n).length : Int) = (n : Int) := by simp [blankM]
 rw [e, ← idPart_zero]
 exact spec_l2Identity.ev_l0 n hn n 0 (by omega)

theorem sqM_good {l : List (List Int)} (h : goodM l = true) (hb : matBytes l) : sqM l = true := by
 obtain ⟨h1, h2, h3⟩ := goodM_iff h
 refine sqM_iff.2 ⟨by omega, by omega, fun r hr => ⟨hb r hr, ?_⟩⟩
 obtain ⟨i, hi, rfl⟩ := List.getElem_of_mem hr
 have := h3 i hi
 rw [List.getD_eq_getElem?_getD, List.getElem?_eq_getElem hi] at this
 exact this
theorem matBytes_of {l : List (List Int)} (h : ∀ r ∈ l, (r.length ≤ maxLen ∧ ∀ x ∈ r, (Lit.int .u8 x).wf = true)) : matBytes l := fun r hr => Bytes.of_wf (h r hr).2
theorem sqN_good {l : List (List Int)} (h : goodM l = true) (hb : matBytes l) (e : l.length = (l.getD 0 []).length) : sqN l = true := by
 unfold sqN
 rw [sqM_good h hb, decide_eq_true (goodM_iff h).1.1, decide_eq_true e.symm]
 rfl
theorem spec_l2Inverse.ev {l : List (List Int)} (hs : sqN l = true) : spec_l2Inverse.f l = some ((redP l (idM l.length) l.length).1.map Prod.snd, decide ((redP l (idM l.length) l.length).2 = l.length)) := by
 unfold spec_l2Inverse.f
 rw [if_pos hs]
theorem invM_yes {l : List (List Int)} (h : (redP l (idM l.length) l.length).2 = l.length) : invM l = ((redP l (idM l.length) l.length).1.map Prod.snd, true) := by
 unfold invM
 rw [if_neg (by omega)]
theorem invM_no {l : List (List Int)} (h : ¬ (redP l (idM l.length) l.length).2 = l.length) : invM l = ([], false) := by
 unfold invM
 have := red_rank_le l (idM l.length) l.length
 rw [if_pos (by omega)]
theorem invM_ok {l : List (List Int)} (h : sqN l = true) : ((invM l).2 = true → (invM l).1.length = l.length) ∧ (∀ r ∈ (invM l).1, okI l.length r) ∧ (invM l).1.length ≤ l.length := by
 obtain ⟨h1, h2, h3⟩ := sqN_iff.1 h
 by_cases e : (redP l (idM l.length) l.length).2 = l.length
 ·rw [invM_yes e]
  have hl : ((redP l (idM l.length) l.length).1.map Prod.snd).length = l.length := by rw [List.length_map, redP_length _ _ _ (by rw [KitN.idM_length])]
  exact ⟨fun _ => hl, snd_all (redP_ok (n := l.length) h3 (idM_ok l.length)), by show ((redP l (idM l.length) l.length).1.map Prod.snd).length ≤ _; omega⟩
 ·rw [invM_no e]
  exact ⟨fun z => (by cases z), fun r hr => (by cases hr), Nat.zero_le _⟩

theorem spec_l1In.ev (a b c : Int) : spec_l1In.f a b c = some (decide (b ≤ a ∧ a ≤ c)) := by
 unfold spec_l1In.f
 by_cases h : a ≥ b
 ·rw [if_pos h]; simp [h]
 ·rw [if_neg h]; simp; omega

theorem goodM_first {l : List (List Int)} (h1 : 1 ≤ l.length ∧ l.length ≤ 16) (h2 : 1 ≤ (l.getD 0 []).length ∧ (l.getD 0 []).length ≤ 16) : goodM l = !((List.range l.length).any fun i => (l.getD i []).length != (l.getD 0 []).length) := by
 unfold goodM
 rw [decide_eq_true (show 1 ≤ l.length ∧ l.length ≤ 16 ∧ 1 ≤ (l.getD 0 []).length ∧ (l.getD 0 []).length ≤ 16 from ⟨h1.1, h1.2, h2⟩), Bool.true_and]
theorem goodM_no {l : List (List Int)} (h : ¬ (1 ≤ l.length ∧ l.length ≤ 16 ∧ 1 ≤ (l.getD 0 []).length ∧ (l.getD 0 []).length ≤ 16)) : goodM l = false := by
 unfold goodM
 rw [decide_eq_false h, Bool.false_and]
theorem spec_GoodMatrix.ev_l0 (l : List (List Int)) (h1 : 1 ≤ l.length ∧ l.length ≤ 16) (h2 : 1 ≤ (l.getD 0 []).length ∧ (l.getD 0 []).length ≤ 16) : ∀ (n i : Nat), i + n = l.length → (∀ j, j < i → (l.getD j []).length = (l.getD 0 []).length) →
  Ev (fun k => spec_GoodMatrix.l0 k l (l.length : Int) (i : Int) l) (goodM l)
 | 0, i, hi, ha => by
  refine Ev.step (fun k => spec_GoodMatrix.l0.eq_2 _ _ _ _ k) ?_
  refine ev_neg (by omega) (ev_now ?_)
  rw [goodM_first h1 h2]
  have : ((List.range l.length).any fun i => (l.getD i []).length != (l.getD 0 []).length) = false := by
   rw [List.any_eq_false]
   intro x hx
   have hx' : x < l.length := by simpa using hx
   simp only [ha x (by omega), bne_self_eq_false]
   simp
  rw [this]; rfl
 | n + 1, i, hi, ha => by
  refine Ev.step (fun k => spec_GoodMatrix.l0.eq_2 _ _ _ _ k) ?_
  refine ev_pos (by omega) (ev_pos (by omega) (ev_pos (by omega) (ev_pos (by omega) ?_)))
  simp only [rdSS0, Int.toNat_natCast, Int.toNat_zero]
  by_cases h : (l.getD i []).length = (l.getD 0 []).length
  ·refine ev_pos (by omega) ?_
   rw [inc (by omega)]
   exact spec_GoodMatrix.ev_l0 l h1 h2 n (i + 1) (by omega) (fun j hj => by by_cases e : j = i; exact e ▸ h; exact ha j (by omega))
  ·refine ev_neg (by omega) (ev_now ?_)
   rw [goodM_first h1 h2]
   have : ((List.range l.length).any fun i => (l.getD i []).length != (l.getD 0 []).length) = true := List.any_eq_true.2 ⟨i, by simp; omega, by simpa using h⟩
   rw [this]; rfl
theorem spec_GoodMatrix.ev (l : List (List Int)) : Ev (fun k => spec_GoodMatrix.f k l) (goodM l) := by
 unfold spec_GoodMatrix.f
 simp only [spec_l1In.ev, Option.bind_some, decide_eq_true_eq, rdSS0, Int.toNat_zero]
 by_cases h1 : 1 ≤ (l.length : Int) ∧ (l.length : Int) ≤ 16
 ·refine ev_pos h1 (ev_pos (by omega) ?_)
  by_cases h2 : 1 ≤ ((l.getD 0 []).length : Int) ∧ ((l.getD 0 []).length : Int) ≤ 16
  ·rw [decide_eq_true h2]
   refine Ev.step (fun k => spec_GoodMatrix.j0.eq_2 _ _ k) (ev_neg (by simp) ?_)
   exact spec_GoodMatrix.ev_l0 l (by omega) (by omega) l.length 0 (by omega) (fun j hj => absurd hj (by omega))
  ·rw [decide_eq_false h2]
   refine Ev.step (fun k => spec_GoodMatrix.j0.eq_2 _ _ k) (ev_pos rfl (ev_now ?_))
   exact (goodM_no (by omega)).symm
 ·refine ev_neg h1 ?_
  refine Ev.step (fun k => spec_GoodMatrix.j0.eq_2 _ _ k) (ev_pos rfl (ev_now ?_))
  exact (goodM_no (by omega)).symm

def invVal (l : List (List Int)) : List (List Int) × Bool := if goodM l = true ∧ l.length = (l.getD 0 []).length then invM l else ([], false)
theorem spec_InverseOf.ev (l : List (List Int)) (hb : matBytes l) : Ev (fun k => spec_InverseOf.f k l) (invVal l) := by
 unfold spec_InverseOf.f invVal
 refine ev_bind (spec_GoodMatrix.ev l) ?_
 by_cases h : goodM l = true
 ·have h1 := (goodM_iff h).1.1
  refine ev_pos h (ev_pos (by omega) ?_)
  refine Ev.step (fun k => spec_InverseOf.j0.eq_2 _ _ k) ?_
  simp only [rdSS0, Int.toNat_zero]
  by_cases e : l.length = (l.getD 0 []).length
  ·refine ev_neg (by simp only [bne_iff_ne]; omega) ?_
   have hs := sqN_good h hb e
   simp only [if_pos (show goodM l = true ∧ l.length = (l.getD 0 []).length from ⟨h, e⟩)]
   rw [spec_l2Inverse.ev hs]
   simp only [Option.bind_some]
   by_cases z : (redP l (idM l.length) l.length).2 = l.length
   ·rw [invM_yes z]
    exact ev_pos (decide_eq_true z) (ev_now rfl)
   ·rw [invM_no z]
    exact ev_neg (by simpa using z) (ev_now rfl)
  ·rw [if_neg (fun z => e z.2)]
   exact ev_pos (by simp only [bne_iff_ne]; omega) (ev_now rfl)
 ·rw [if_neg (fun z => h z.1)]
  refine ev_neg h ?_
  refine Ev.step (fun k => spec_InverseOf.j0.eq_2 _ _ k) ?_
  exact ev_pos rfl (ev_now rfl)
theorem invVal_ok (l : List (List Int)) (hb : matBytes l) : rowsLe 16 (invVal l).1 ∧ matBytes (invVal l).1 ∧ ((invVal l).2 = true → (invVal l).1.length = l.length ∧ ∀ r ∈ (invVal l).1, r.length = l.length) := by
 unfold invVal
 by_cases h : goodM l = true ∧ l.length = (l.getD 0 []).length
 ·rw [if_pos h]
  have hg := (goodM_iff h.1).1.2
  obtain ⟨h1, h2, h3⟩ := invM_ok (sqN_good h.1 hb h.2)
  exact ⟨⟨by omega, fun r hr => by rw [(h2 r hr).2]; exact hg⟩, fun r hr => (h2 r hr).1, fun z => ⟨h1 z, fun r hr => (h2 r hr).2⟩⟩
 ·rw [if_neg h]
  exact ⟨nil_rows 16, fun r hr => (by cases hr), fun z => (by cases z)⟩

theorem spec_l1Dot.ev_l0 (v w : List Int) (hv : Bytes v) (hw : Bytes w) (hl : v.length = w.length) (hs : v.length < 140737488355328) : ∀ (n i : Nat) (o : Int), i + n = v.length → Byte o →
  Ev (fun k => spec_l1Dot.l0 k v w o (v.length : Int) (i : Int)) (gx o (dotV (v.drop i) (w.drop i)))
 | 0, i, o, hi, ho => by
  refine Ev.step (fun k => spec_l1Dot.l0.eq_2 _ _ _ _ _ k) ?_
  refine ev_neg (by omega) (ev_now ?_)
  rw [List.drop_of_length_le (by omega)]
  exact (gx_zero ho).symm
 | n + 1, i, o, hi, ho => by
  refine Ev.step (fun k => spec_l1Dot.l0.eq_2 _ _ _ _ _ k) ?_
  refine ev_pos (by omega) (ev_pos (by omega) (ev_pos (by omega) (ev_pos (by omega) ?_)))
  have bv : Byte (rd v (i : Int)) := bytes_rd hv (by omega)
  have bw : Byte (rd w (i : Int)) := bytes_rd hw (by omega)
  refine ev_bind (spec_l1Times.ev bv bw) ?_
  have bm := Byte.mul bv (rd w (i : Int))
  have bg := Byte.gx ho bm
  rw [inc (by omega), xor_u8 ho bm]
  refine ev_eq (spec_l1Dot.ev_l0 v w hv hw hl hs n (i + 1) _ (by omega) bg) ?_
  rw [drop_cons (l := v) (i := i) (by omega), drop_cons (l := w) (i := i) (by omega), rd_get (by omega), rd_get (by omega), dotV, gx_assoc]
theorem spec_l1Dot.ev {v w : List Int} (hv : Bytes v) (hw : Bytes w) (hl : v.length = w.length) (hs : v.length < 140737488355328) : Ev (fun k => spec_l1Dot.f k v w) (dotV v w) := by
 unfold spec_l1Dot.f
 refine ev_eq (spec_l1Dot.ev_l0 v w hv hw hl hs v.length 0 0 (by omega) .zero) ?_
 exact zero_gx (dotV_byte hv)

def applyM (m : List (List Int)) (v : List Int) : List Int := m.map fun r => dotV r v
theorem applyM_length (m : List (List Int)) (v : List Int) : (applyM m v).length = m.length := by simp [applyM]
theorem applyM_bytes {m : List (List Int)} (h : matBytes m) (v : List Int) : Bytes (applyM m v) := by
 intro x hx
 simp only [applyM, List.mem_map] at hx
 obtain ⟨r, hr, rfl⟩ := hx
 exact dotV_byte (h r hr)
theorem spec_l2Apply.ev_l0 (m : List (List Int)) (v : List Int) (hv : Bytes v) (hn : v.length ≤ 1048576) (hr : ∀ r ∈ m, Bytes r ∧ r.length = v.length) (hl : m.length ≤ 1048576) : ∀ (d i : Nat) (o : List Int), i + d = m.length → o = (applyM m v).take i →
  Ev (fun k => spec_l2Apply.l0 k v o m (m.length : Int) (i : Int)) (applyM m v)
 | 0, i, o, hi, ho => by
  refine Ev.step (fun k => spec_l2Apply.l0.eq_2 _ _ _ _ _ k) ?_
  refine ev_neg (by omega) (ev_now ?_)
  rw [ho, List.take_of_length_le (by rw [applyM_length]; omega)]
 | d + 1, i, o, hi, ho => by
  have hlen : o.length = i := by rw [ho, List.length_take, applyM_length]; omega
  have hri := hr _ (List.getElem_mem (show i < m.length by omega))
  refine Ev.step (fun k => spec_l2Apply.l0.eq_2 _ _ _ _ _ k) ?_
  refine ev_pos (by omega) (ev_pos (by omega) (ev_pos (by omega) ?_))
  rw [rdSS _ i (by omega)]
  refine ev_bind (spec_l1Dot.ev hri.1 hv hri.2 (by omega)) (ev_pos (by omega) ?_)
  rw [inc (by omega)]
  refine spec_l2Apply.ev_l0 m v hv hn hr hl d (i + 1) _ (by omega) ?_
  rw [List.take_succ_eq_append_getElem (by rw [applyM_length]; omega), ← ho]
  simp [applyM]
theorem spec_l2Apply.ev {m : List (List Int)} {v : List Int} (hv : Bytes v) (hn : v.length ≤ 1048576) (hr : ∀ r ∈ m, Bytes r ∧ r.length = v.length) (hl : m.length ≤ 1048576) : Ev (fun k => spec_l2Apply.f k m v) (applyM m v) := by
 unfold spec_l2Apply.f
 exact spec_l2Apply.ev_l0 m v hv hn hr hl m.length 0 [] (by omega) rfl

def solveVal (l : List (List Int)) (v : List Int) : List Int × Bool := if (invVal l).2 = true ∧ v.length = l.length then (applyM (invVal l).1 v, true) else ([], false)
theorem spec_Solve.ev (l : List (List Int)) (hb : matBytes l) (v : List Int) (hv : Bytes v) : Ev (fun k => spec_Solve.f k l v) (solveVal l v) := by
 unfold spec_Solve.f solveVal
 refine ev_bind (spec_InverseOf.ev l hb) ?_
 obtain ⟨h1, h2, h3⟩ := invVal_ok l hb
 by_cases z : (invVal l).2 = true
 ·refine ev_pos z ?_
  by_cases e : v.length = l.length
  ·rw [if_pos ⟨z, e⟩]
   have hl := (h3 z).1
   have hl2 := h1.1
   exact ev_pos (by omega) (ev_bind (spec_l2Apply.ev hv (by omega) (fun r hr => ⟨h2 r hr, by rw [(h3 z).2 r hr, e]⟩) (by omega)) (ev_now rfl))
  ·rw [if_neg (fun y => e y.2)]
   exact ev_neg (by omega) (ev_now rfl)
 ·rw [if_neg (fun y => z y.1)]
  exact ev_neg z (ev_now rfl)
theorem solveVal_ok (l : List (List Int)) (hb : matBytes l) (v : List Int) : (solveVal l v).1.length ≤ 16 := by
 unfold solveVal
 split
 ·show (applyM _ _).length ≤ 16
  rw [applyM_length]
  exact (invVal_ok l hb).1.1
 ·exact Nat.zero_le _

theorem impl_within.ev (a b c : Int) : impl_within.f a b c = some (decide (b ≤ a ∧ a ≤ c)) := by
 unfold impl_within.f
 by_cases h : a ≥ b
 ·rw [if_pos h]; simp [h]
 ·rw [if_neg h]; simp; omega

theorem impl_GoodMatrix.ev (l : List (List Int)) : impl_GoodMatrix.f l = some (goodM l) := rfl

theorem impl_identity.ev_l0 (n : Nat) (hn : n ≤ 1048576) : ∀ (d i : Nat) (o : List (List Int)), i + d = n → o = (idM n).take i → Ev (fun k => impl_identity.l0 k (n : Int) o (n : Int) (i : Int)) (idM n)
 | 0, i, o, hi, ho => by
  refine Ev.step (fun k => impl_identity.l0.eq_2 _ _ _ _ k) ?_
  refine ev_neg (by omega) (ev_now ?_)
  rw [ho, List.take_of_length_le (by simp [idM]; omega)]
 | d + 1, i, o, hi, ho => by
  have hl : o.length = i := by rw [ho, List.length_take]; simp [idM]; omega
  refine Ev.step (fun k => impl_identity.l0.eq_2 _ _ _ _ k) ?_
  simp only [Option.bind_some, Int.toNat_natCast, List.length_replicate]
  refine ev_pos (by omega) (ev_pos (by omega) (ev_pos (by omega) (ev_pos (by omega) (ev_pos (by omega) (ev_pos (by omega) ?_)))))
  rw [inc (by omega)]
  refine impl_identity.ev_l0 n hn d (i + 1) _ (by omega) ?_
  rw [List.take_succ_eq_append_getElem (by simp [idM]; omega), ← ho]
  simp [idM]
theorem impl_identity.ev (n : Nat) (hn : n ≤ 1048576) : Ev (fun k => impl_identity.f k (n : Int)) (idM n) := by
 unfold impl_identity.f
 exact impl_identity.ev_l0 n hn n 0 [] (by omega) rfl

theorem impl_added.ev_l0 (v w : List Int) (hv : Bytes v) (hw : Bytes w) (hl : v.length = w.length) (hs : v.length < 140737488355328) : ∀ (n i : Nat) (o : List Int), i + n = v.length → o = (addV v w).take i →
  Ev (fun k => impl_added.l0 k w o v (v.length : Int) (i : Int)) (addV v w)
 | 0, i, o, hi, ho => by
  refine Ev.step (fun k => impl_added.l0.eq_2 _ _ _ _ _ k) ?_
  refine ev_neg (by omega) (ev_now ?_)
  subst ho
  rw [List.take_of_length_le (by rw [addV_length]; omega)]
 | n + 1, i, o, hi, ho => by
  have hz := addV_length v w
  have hlen : o.length = i := by rw [ho, List.length_take, hz]; omega
  refine Ev.step (fun k => impl_added.l0.eq_2 _ _ _ _ _ k) ?_
  refine ev_pos (by omega) (ev_pos (by omega) (ev_pos (by omega) (ev_pos (by omega) (ev_pos (by omega) ?_))))
  rw [inc (by omega), xor_u8 (bytes_rd hv (by omega)) (bytes_rd hw (by omega)), rd_get (by omega), rd_get (by omega)]
  refine impl_added.ev_l0 v w hv hw hl hs n (i + 1) _ (by omega) ?_
  rw [List.take_succ_eq_append_getElem (by omega), ← ho]
  simp [addV]
theorem impl_added.ev {v w : List Int} (hv : Bytes v) (hw : Bytes w) (hl : v.length = w.length) (hs : v.length < 140737488355328) : Ev (fun k => impl_added.f k v w) (addV v w) := by
 unfold impl_added.f
 exact impl_added.ev_l0 v w hv hw hl hs v.length 0 [] (by omega) rfl

theorem impl_Times.ev_l0 (b : Nat) (hb : b < 256) : ∀ (n i o x : Nat), i + n = 8 → o < 256 → x < 256 →
  Ev (fun k => impl_Times.l0 k (b : Int) (o : Int) (i : Int) (x : Int)) ((T n o x (b / 2 ^ i) : Nat) : Int)
 | 0, i, o, x, hi, ho, hx => by
  refine Ev.step (fun k => impl_Times.l0.eq_2 _ _ _ _ k) ?_
  refine ev_neg (by omega) (ev_now ?_)
  simp only [T]
  omega
 | n + 1, i, o, x, hi, ho, hx => by
  refine Ev.step (fun k => impl_Times.l0.eq_2 _ _ _ _ k) ?_
  refine ev_pos (by omega) (ev_pos (by omega) ?_)
  have e1 : shr .u8 (b : Int) (i : Int) = ((b / 2 ^ i : Nat) : Int) := by
   unfold shr
   rw [Nat.min_eq_left (by simp only [IntKind.bits]; omega)]
   simp
  have hd : b / 2 ^ i < 256 := Nat.lt_of_le_of_lt (Nat.div_le_self _ _) hb
  have e2 : wrap64 ((x : Int) * 2) = ((2 * x : Nat) : Int) := by rw [wrap_id (by omega) (by omega)]; omega
  have e3 : wrap64 ((i : Int) + 1) = ((i + 1 : Nat) : Int) := by rw [wrap_id (by omega) (by omega)]; omega
  rw [e1, and1_u8 hd, e2, e3]
  have e4 : Go.bits .xor .i64 (o : Int) (x : Int) = ((o ^^^ x : Nat) : Int) := xor_i64 (by omega) (by omega)
  have e5 : Go.bits .xor .i64 ((2 * x : Nat) : Int) 283 = ((2 * x ^^^ 283 : Nat) : Int) := xor_i64 (m := 2 * x) (n := 283) (by omega) (by omega)
  have e6 : b / 2 ^ i / 2 = b / 2 ^ (i + 1) := by rw [Nat.div_div_eq_div_mul, Nat.pow_succ]
  rw [e4, e5]
  have hT : T (n + 1) o x (b / 2 ^ i) = T n (if b / 2 ^ i % 2 = 1 then o ^^^ x else o) (xt x) (b / 2 ^ (i + 1)) := by rw [T, e6]
  rw [hT]
  have hxt := xt_lt hx
  have hox := xor_lt ho hx
  by_cases h1 : b / 2 ^ i % 2 = 1
  ·rw [if_pos h1]
   refine ev_pos (by omega) ?_
   by_cases h2 : 2 * x > 255
   ·refine ev_pos (by omega) ?_
    have : xt x = 2 * x ^^^ 283 := by unfold xt; rw [if_pos h2]
    rw [this] at hxt ⊢
    exact impl_Times.ev_l0 b hb n (i + 1) _ _ (by omega) hox hxt
   ·refine ev_neg (by omega) ?_
    have : xt x = 2 * x := by unfold xt; rw [if_neg h2]
    rw [this] at hxt ⊢
    exact impl_Times.ev_l0 b hb n (i + 1) _ _ (by omega) hox hxt
  ·rw [if_neg h1]
   refine ev_neg (by omega) ?_
   by_cases h2 : 2 * x > 255
   ·refine ev_pos (by omega) ?_
    have : xt x = 2 * x ^^^ 283 := by unfold xt; rw [if_pos h2]
    rw [this] at hxt ⊢
    exact impl_Times.ev_l0 b hb n (i + 1) _ _ (by omega) ho hxt
   ·refine ev_neg (by omega) ?_
    have : xt x = 2 * x := by unfold xt; rw [if_neg h2]
    rw [this] at hxt ⊢
    exact impl_Times.ev_l0 b hb n (i + 1) _ _ (by omega) ho hxt
theorem impl_Times.ev {a b : Int} (ha : Byte a) (hb : Byte b) : Ev (fun k => impl_Times.f k a b) (mul a b) := by
 obtain ⟨m, hm, rfl⟩ := ha.nat
 obtain ⟨n, hn, rfl⟩ := hb.nat
 unfold impl_Times.f
 rw [wrap_id (by omega) (by omega)]
 have h := impl_Times.ev_l0 n hn 8 0 0 m rfl (by decide) hm
 exact ev_eq h (by unfold Gf.mul gm; simp)

theorem impl_scaled.ev_l0 (a : Int) (ha : Byte a) (v : List Int) (hv : Bytes v) (hs : v.length < 140737488355328) : ∀ (n i : Nat) (o : List Int), i + n = v.length → o = (scale a v).take i →
  Ev (fun k => impl_scaled.l0 k a o v (v.length : Int) (i : Int)) (scale a v)
 | 0, i, o, hi, ho => by
  refine Ev.step (fun k => impl_scaled.l0.eq_2 _ _ _ _ _ k) ?_
  refine ev_neg (by omega) (ev_now ?_)
  subst ho
  rw [List.take_of_length_le (by rw [scale_length]; omega)]
 | n + 1, i, o, hi, ho => by
  have hz := scale_length a v
  have hlen : o.length = i := by rw [ho, List.length_take, hz]; omega
  refine Ev.step (fun k => impl_scaled.l0.eq_2 _ _ _ _ _ k) ?_
  refine ev_pos (by omega) (ev_pos (by omega) (ev_pos (by omega) ?_))
  refine ev_bind (impl_Times.ev ha (bytes_rd hv (by omega))) ?_
  refine ev_pos (by omega) ?_
  rw [inc (by omega), rd_get (by omega)]
  refine impl_scaled.ev_l0 a ha v hv hs n (i + 1) _ (by omega) ?_
  rw [List.take_succ_eq_append_getElem (by omega), ← ho]
  simp [scale]
theorem impl_scaled.ev {a : Int} (ha : Byte a) {v : List Int} (hv : Bytes v) (hs : v.length < 140737488355328) : Ev (fun k => impl_scaled.f k a v) (scale a v) := by
 unfold impl_scaled.f
 exact impl_scaled.ev_l0 a ha v hv hs v.length 0 [] (by omega) rfl

theorem impl_power.ev_l0 : ∀ (N n : Nat) (a o : Int), n ≤ N → n < 4294967296 → Byte a → Byte o → Ev (fun k => impl_power.l0 k a (n : Int) o) (mul o (pow a n)) := by
 intro N
 induction N with
 | zero =>
  intro n a o hN hn ha ho
  obtain rfl : n = 0 := by omega
  refine Ev.step (fun k => impl_power.l0.eq_2 _ _ _ k) ?_
  exact ev_neg (by omega) (ev_now (by rw [pow_zero, mul_one ho]))
 | succ N ih =>
  intro n a o hN hn ha ho
  refine Ev.step (fun k => impl_power.l0.eq_2 _ _ _ k) ?_
  by_cases h0 : n = 0
  ·subst h0
   exact ev_neg (by omega) (ev_now (by rw [pow_zero, mul_one ho]))
  refine ev_pos (by omega) ?_
  have e : ((n : Int) / 2) = ((n / 2 : Nat) : Int) := by omega
  have haa := Byte.mul ha a
  have hsq : pow (mul a a) (n / 2) = pow a (2 * (n / 2)) := by rw [pow_mul ha, pow_two ha]
  rw [and1_i64 hn, e]
  by_cases h1 : n % 2 = 1
  ·refine ev_pos (by omega) ?_
   refine ev_bind (impl_Times.ev ho ha) (ev_bind (impl_Times.ev ha ha) ?_)
   refine ev_eq (ih (n / 2) _ _ (by omega) (by omega) haa (Byte.mul ho a)) ?_
   have hn2 : n = 1 + 2 * (n / 2) := by omega
   rw [hsq, mul_assoc ho ha (Byte.pow ha _)]
   conv => rhs; rw [hn2, pow_add ha, pow_one ha]
  ·refine ev_neg (by omega) ?_
   refine ev_bind (impl_Times.ev ha ha) ?_
   refine ev_eq (ih (n / 2) _ _ (by omega) (by omega) haa ho) ?_
   have hn2 : n = 2 * (n / 2) := by omega
   rw [hsq, ← hn2]
theorem impl_power.ev {a : Int} (ha : Byte a) (n : Nat) (hn : n < 4294967296) : Ev (fun k => impl_power.f k a (n : Int)) (pow a n) := by
 unfold impl_power.f
 refine ev_eq (impl_power.ev_l0 n n a 1 (Nat.le_refl _) hn ha .one) ?_
 exact one_mul (Byte.pow ha n)

theorem impl_Inverse.ev {a : Int} (ha : Byte a) : Ev (fun k => impl_Inverse.f k a) (inv a) := by
 unfold impl_Inverse.f
 exact ev_bind (impl_power.ev ha 254 (by decide)) (ev_now (inv_pow a).symm)

theorem impl_inverseOf.ev {l : List (List Int)} (hs : sqN l = true) : impl_inverseOf.f l = some (invM l) := by
 unfold impl_inverseOf.f
 rw [if_pos hs]

theorem impl_dot.ev_l0 (v w : List Int) (hv : Bytes v) (hw : Bytes w) (hl : v.length = w.length) (hs : v.length < 140737488355328) : ∀ (n i : Nat) (o : Int), i + n = v.length → Byte o →
  Ev (fun k => impl_dot.l0 k w o v (v.length : Int) (i : Int)) (gx o (dotV (v.drop i) (w.drop i)))
 | 0, i, o, hi, ho => by
  refine Ev.step (fun k => impl_dot.l0.eq_2 _ _ _ _ _ k) ?_
  refine ev_neg (by omega) (ev_now ?_)
  rw [List.drop_of_length_le (by omega)]
  exact (gx_zero ho).symm
 | n + 1, i, o, hi, ho => by
  refine Ev.step (fun k => impl_dot.l0.eq_2 _ _ _ _ _ k) ?_
  refine ev_pos (by omega) (ev_pos (by omega) (ev_pos (by omega) (ev_pos (by omega) ?_)))
  have bv : Byte (rd v (i : Int)) := bytes_rd hv (by omega)
  have bw : Byte (rd w (i : Int)) := bytes_rd hw (by omega)
  refine ev_bind (impl_Times.ev bv bw) ?_
  have bm := Byte.mul bv (rd w (i : Int))
  have bg := Byte.gx ho bm
  rw [inc (by omega), xor_u8 ho bm]
  refine ev_eq (impl_dot.ev_l0 v w hv hw hl hs n (i + 1) _ (by omega) bg) ?_
  rw [drop_cons (l := v) (i := i) (by omega), drop_cons (l := w) (i := i) (by omega), rd_get (by omega), rd_get (by omega), dotV, gx_assoc]
theorem impl_dot.ev {v w : List Int} (hv : Bytes v) (hw : Bytes w) (hl : v.length = w.length) (hs : v.length < 140737488355328) : Ev (fun k => impl_dot.f k v w) (dotV v w) := by
 unfold impl_dot.f
 refine ev_eq (impl_dot.ev_l0 v w hv hw hl hs v.length 0 0 (by omega) .zero) ?_
 exact zero_gx (dotV_byte hv)

theorem impl_solve.ev_l0 (m : List (List Int)) (v : List Int) (hv : Bytes v) (hn : v.length ≤ 1048576) (hr : ∀ r ∈ m, Bytes r ∧ r.length = v.length) (hl : m.length ≤ 1048576) : ∀ (d i : Nat) (o : List Int), i + d = m.length → o = (applyM m v).take i →
  Ev (fun k => impl_solve.l0 k v o m (m.length : Int) (i : Int)) (applyM m v, true)
 | 0, i, o, hi, ho => by
  refine Ev.step (fun k => impl_solve.l0.eq_2 _ _ _ _ _ k) ?_
  refine ev_neg (by omega) (ev_now ?_)
  rw [ho, List.take_of_length_le (by rw [applyM_length]; omega)]
 | d + 1, i, o, hi, ho => by
  have hlen : o.length = i := by rw [ho, List.length_take, applyM_length]; omega
  have hri := hr _ (List.getElem_mem (show i < m.length by omega))
  refine Ev.step (fun k => impl_solve.l0.eq_2 _ _ _ _ _ k) ?_
  refine ev_pos (by omega) (ev_pos (by omega) (ev_pos (by omega) ?_))
  rw [rdSS _ i (by omega)]
  refine ev_bind (impl_dot.ev hri.1 hv hri.2 (by omega)) (ev_pos (by omega) ?_)
  rw [inc (by omega)]
  refine impl_solve.ev_l0 m v hv hn hr hl d (i + 1) _ (by omega) ?_
  rw [List.take_succ_eq_append_getElem (by rw [applyM_length]; omega), ← ho]
  simp [applyM]
theorem impl_solve.ev {l : List (List Int)} {v : List Int} (hs : sqN l = true) (hv : Bytes v) (hn : v.length = l.length) : Ev (fun k => impl_solve.f k l v) (if (invM l).2 = true then (applyM (invM l).1 v, true) else ([], false)) := by
 unfold impl_solve.f
 rw [impl_inverseOf.ev hs]
 simp only [Option.bind_some]
 have hl := (sqN_iff.1 hs).2.1
 obtain ⟨h1, h2, h3⟩ := invM_ok hs
 by_cases z : (invM l).2 = true
 ·rw [if_pos z]
  refine ev_pos z ?_
  exact impl_solve.ev_l0 (invM l).1 v hv (by omega) (fun r hr => ⟨(h2 r hr).1, by rw [(h2 r hr).2, hn]⟩) (by omega) (invM l).1.length 0 [] (by omega) rfl
 ·rw [if_neg z]
  exact ev_neg z (ev_now rfl)

theorem impl_Solve.ev (l : List (List Int)) (hb : matBytes l) (v : List Int) (hv : Bytes v) : Ev (fun k => impl_Solve.f k l v) (solveVal l v) := by
 unfold impl_Solve.f solveVal
 simp only [impl_GoodMatrix.ev, Option.bind_some, rdSS0, Int.toNat_zero]
 by_cases h : goodM l = true
 ·have h1 := (goodM_iff h).1.1
  refine ev_pos h (ev_pos (by omega) ?_)
  by_cases e : l.length = (l.getD 0 []).length
  ·have iv : invVal l = invM l := by unfold invVal; rw [if_pos ⟨h, e⟩]
   rw [iv]
   refine ev_pos (by omega) ?_
   by_cases e2 : v.length = l.length
   ·refine ev_pos (by omega) (ev_bind (impl_solve.ev (sqN_good h hb e) hv e2) (ev_now ?_))
    by_cases z : (invM l).2 = true
    ·rw [if_pos z, if_pos ⟨z, e2⟩]
    ·rw [if_neg z, if_neg (fun y => z y.1)]
   ·rw [if_neg (fun y => e2 y.2)]
    exact ev_neg (by omega) (ev_now rfl)
  ·have iv : invVal l = ([], false) := by unfold invVal; rw [if_neg (fun z => e z.2)]
   rw [iv, if_neg (fun y => by cases y.1)]
   exact ev_neg (by omega) (ev_now rfl)
 ·have iv : invVal l = ([], false) := by unfold invVal; rw [if_neg (fun z => h z.1)]
  rw [iv, if_neg (fun y => by cases y.1)]
  exact ev_neg h (ev_now rfl)

theorem laws_heldByteS.ev_l0 (a : Int) (m : Nat) (ha : 0 ≤ a) (hm : a + m < 4611686018427387904) : ∀ (n i : Nat), i + n = m →
  Ev (fun k => laws_heldByteS.l0 k (markB a m) (a + (i : Nat)) (i : Int)) (a + (m : Nat))
 | 0, i, hi => by
  have hb := markB_length a m
  refine Ev.step (fun k => laws_heldByteS.l0.eq_2 _ _ _ k) ?_
  refine ev_neg (by omega) (ev_now ?_)
  have : i = m := by omega
  rw [this]
 | n + 1, i, hi => by
  have hb := markB_length a m
  refine Ev.step (fun k => laws_heldByteS.l0.eq_2 _ _ _ k) ?_
  refine ev_pos (by omega) (ev_pos (by omega) (ev_pos (by rw [rd_get (by omega), markB_get]) ?_))
  have e : wrap64 (a + (i : Nat) + 1) = a + ((i + 1 : Nat) : Int) := by unfold wrap64; omega
  rw [inc (by omega), e]
  exact laws_heldByteS.ev_l0 a m ha hm n (i + 1) (by omega)
theorem laws_heldByteS.ev (a : Int) (m : Nat) (ha : 0 ≤ a) (hm : a + m < 4611686018427387904) : Ev (fun k => laws_heldByteS.f k (markB a m) a) (a + (m : Nat)) := by
 unfold laws_heldByteS.f
 have := laws_heldByteS.ev_l0 a m ha hm m 0 (by omega)
 simpa using this

theorem FnExactSolve : ∀ (l : List (List Int)) (v : List Int), (l.length ≤ maxLen ∧ ∀ r ∈ l, (r.length ≤ maxLen ∧ ∀ x ∈ r, (Lit.int .u8 x).wf = true)) → (v.length ≤ maxLen ∧ ∀ x ∈ v, (Lit.int .u8 x).wf = true) → laws_FnExactSolve.Facts l v := by
 intro l v hl hv0
 by_cases c1 : 1048576 < (v.length : Int)
 ·exact .inl c1
 have hsz := laws_szMatrix.ev l hl.1 (fun r hr => (hl.2 r hr).1) 1048576 (by decide) (by decide)
 by_cases h : (l.length : Int) + (totSS l : Int) ≤ 1048576
 ·rw [if_pos h] at hsz
  have hr := rowsLe_of h
  have hb := matBytes_of hl.2
  have hv := Bytes.of_wf hv0.2
  have hz := solveVal_ok l hb v
  refine .inr (.inr ⟨_, l, v, (solveVal l v).1, (solveVal l v).2, c1, Ev.rounds hsz, by omega, Ev.rounds (laws_toMatrix.ev l hr), Ev.rounds (laws_toByteS.ev v (by omega)), ?_⟩)
  have ht2 := totSS_small (by decide) hr
  have hs := spec_Solve.ev l hb v hv
  have hi := impl_Solve.ev l hb v hv
  generalize solveVal l v = q at *
  obtain ⟨R, b⟩ := q
  dsimp only at *
  exact ⟨Ev.rounds hs, Ev.rounds hi, Ev.rounds (laws_eqByteS.ev R (by omega)), Ev.rounds (laws_eqMatrix.ev l hr), Ev.rounds (laws_eqByteS.ev v (by omega)), Ev.rounds (laws_heldByteS.ev 1 R.length (by omega) (by omega)),
   fun l a h1 h2 => Ev.rounds (laws_markByteS.ev l a h1 h2), ht2, by omega, by omega⟩
 ·rw [if_neg h] at hsz
  exact .inr (.inl ⟨_, c1, Ev.rounds hsz, by decide⟩)

end Go.Proofs.Ytajikfnpcobnpaa.Pure
-- HALVED
