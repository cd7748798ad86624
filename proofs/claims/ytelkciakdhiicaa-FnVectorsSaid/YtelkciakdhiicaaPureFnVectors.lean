/- Products of vectors part over sums and let bytes out, for all drawn vectors; there is no condition. -/
import Derived.Test.YtelkciakdhiicaaPFnVectorsx
import Derived.Test.YtelkciakdhiicaaKit
import Derived.Test.YtelkciakdhiicaaTxt
namespace Go.Proofs.Ytelkciakdhiicaa.Pure
open Go.RowKit Go.Proofs.Ytelkciakdhiicaa.PFnVectors Go.Proofs.YtelkciakdhiicaaW.PrintWords Go.Proofs.YtelkciakdhiicaaW.PrintLast Go.Proofs.Ytelkciakdhiicaa.Gf Go.Proofs.Ytelkciakdhiicaa.Kit Go.Proofs.Ytelkciakdhiicaa.KitW
set_option linter.unusedVariables false
set_option linter.unusedSimpArgs false

theorem impl_Times.ev_l0 (b : Nat) (hb : b < 256) : ∀ (n i o x : Nat), i + n = 8 → o < 256 → x < 256 →
    Ev (fun k => impl_Times.l0 k (b : Int) (o : Int) (i : Int) (x : Int)) ((T n o x (b / 2 ^ i) : Nat) : Int)
  | 0, i, o, x, hi, ho, hx => by
    refine Ev.step (fun k => impl_Times.l0.eq_2 _ _ _ _ k) ?_
    refine ev_neg (by omega) (ev_now ?_)
    simp only [T]
    omega
  | n + 1, i, o, x, hi, ho, hx => by
    refine Ev.step (fun k => impl_Times.l0.eq_2 _ _ _ _ k) ?_
    refine ev_pos (by omega) (ev_pos (by omega) ?_)
    have e1 : shr .u8 (b : Int) (i : Int) = ((b / 2 ^ i : Nat) : Int) := by
      unfold shr
      rw [Nat.min_eq_left (by simp only [IntKind.bits]; omega)]
      simp
    have hd : b / 2 ^ i < 256 := Nat.lt_of_le_of_lt (Nat.div_le_self _ _) hb
    have e2 : wrap64 ((x : Int) * 2) = ((2 * x : Nat) : Int) := by rw [wrap_id (by omega) (by omega)]; omega
    have e3 : wrap64 ((i : Int) + 1) = ((i + 1 : Nat) : Int) := by rw [wrap_id (by omega) (by omega)]; omega
    rw [e1, and1_u8 hd, e2, e3]
    have e4 : Go.bits .xor .i64 (o : Int) (x : Int) = ((o ^^^ x : Nat) : Int) := xor_i64 (by omega) (by omega)
    have e5 : Go.bits .xor .i64 ((2 * x : Nat) : Int) 283 = ((2 * x ^^^ 283 : Nat) : Int) := xor_i64 (m := 2 * x) (n := 283) (by omega) (by omega)
    have e6 : b / 2 ^ i / 2 = b / 2 ^ (i + 1) := by rw [Nat.div_div_eq_div_mul, Nat.pow_succ]
    rw [e4, e5]
    have hT : T (n + 1) o x (b / 2 ^ i) = T n (if b / 2 ^ i % 2 = 1 then o ^^^ x else o) (xt x) (b / 2 ^ (i + 1)) := by rw [T, e6]
    rw [hT]
    have hxt := xt_lt hx
    have hox := xor_lt ho hx
    by_cases h1 : b / 2 ^ i % 2 = 1
    · rw [if_pos h1]
      refine ev_pos (by omega) ?_
      by_cases h2 : 2 * x > 255
      · refine ev_pos (by omega) ?_
        have : xt x = 2 * x ^^^ 283 := by unfold xt; rw [if_pos h2]
        rw [this] at hxt ⊢
        exact impl_Times.ev_l0 b hb n (i + 1) _ _ (by omega) hox hxt
      · refine ev_neg (by omega) ?_
        have : xt x = 2 * x := by unfold xt; rw [if_neg h2]
        rw [this] at hxt ⊢
        exact impl_Times.ev_l0 b hb n (i + 1) _ _ (by omega) hox hxt
    · rw [if_neg h1]
      refine ev_neg (by omega) ?_
      by_cases h2 : 2 * x > 255
      · refine ev_pos (by omega) ?_
        have : xt x = 2 * x ^^^ 283 := by unfold xt; rw [if_pos h2]
        rw [this] at hxt ⊢
        exact impl_Times.ev_l0 b hb n (i + 1) _ _ (by omega) ho hxt
      · refine ev_neg (by omega) ?_
        have : xt x = 2 * x := by unfold xt; rw [if_neg h2]
        rw [this] at hxt ⊢
        exact impl_Times.ev_l0 b hb n (i + 1) _ _ (by omega) ho hxt
theorem impl_Times.ev {a b : Int} (ha : Byte a) (hb : Byte b) : Ev (fun k => impl_Times.f k a b) (mul a b) := by
  obtain ⟨m, hm, rfl⟩ := ha.nat
  obtain ⟨n, hn, rfl⟩ := hb.nat
  unfold impl_Times.f
  rw [wrap_id (by omega) (by omega)]
  have h := impl_Times.ev_l0 n hn 8 0 0 m rfl (by decide) hm
  exact ev_eq h (by unfold Gf.mul gm; simp)

theorem low255 (y : Int) : 0 ≤ wrap64 (Go.bits .and .u64 y 255) ∧ wrap64 (Go.bits .and .u64 y 255) ≤ 255 := by
  have e : Go.bits .and .u64 y 255 = IntKind.u64.wrap (((BitVec.ofInt 64 y &&& BitVec.ofInt 64 255).toNat : Nat) : Int) := rfl
  have h : (BitVec.ofInt 64 y &&& BitVec.ofInt 64 255).toNat ≤ 255 := by
    rw [BitVec.toNat_and]
    exact Nat.le_trans Nat.and_le_right (by decide)
  rw [e]
  generalize (BitVec.ofInt 64 y &&& BitVec.ofInt 64 255).toNat = n at h
  have e2 : IntKind.u64.wrap (n : Int) = (n : Int) := by
    first
      | (rw [IntKind.wrap_u64]; omega)
      | (simp [IntKind.wrap, IntKind.bits, IntKind.signed]; omega)
  rw [e2, wrap_id (by omega) (by omega)]
  omega
theorem spec_l1Cur_next.some_ {s : List Int} (hs : Bytes s) {a z : Int} (h0 : 0 ≤ a) (h1 : a ≤ 4611686018427387904) : ∃ x z', spec_l1Cur_next.f s a z = some (x, a + 1, z') ∧ 0 ≤ x ∧ x ≤ 255 := by
  unfold spec_l1Cur_next.f
  have e : wrap64 (a + 1) = a + 1 := wrap_id (by omega) (by omega)
  rw [e]
  by_cases c1 : a < (s.length : Int)
  · rw [if_pos c1, if_pos h0, if_pos (show a + 1 ≤ (s.length : Int) by omega)]
    refine ⟨_, _, rfl, ?_⟩
    have hb : Byte (rd s a) := by
      obtain ⟨i, rfl⟩ := Int.eq_ofNat_of_zero_le h0
      have hi : i < s.length := by omega
      rw [rd_nat, List.getD_eq_getElem?_getD, List.getElem?_eq_getElem hi]
      exact hs _ (List.getElem_mem hi)
    have hb1 := hb.1
    have hb2 := hb.2
    rw [wrap_id hb1 (by omega)]
    omega
  · rw [if_neg c1, if_neg (show ¬ a + 1 ≤ (s.length : Int) by omega)]
    exact ⟨_, _, rfl, low255 _⟩

theorem spec_l1Cur_pick.some_ {s : List Int} (hs : Bytes s) {a z n : Int} (h0 : 0 ≤ a) (h1 : a ≤ 4611686018427387000) (hn : 1 ≤ n) : ∃ x b z', spec_l1Cur_pick.f s a z n = some (x, b, z') ∧ 0 ≤ x ∧ x < n ∧ a ≤ b ∧ b ≤ a + 2 := by
  unfold spec_l1Cur_pick.f
  by_cases c1 : n ≤ 1
  · rw [if_pos c1]
    exact ⟨_, _, _, rfl, by omega, by omega, by omega, by omega⟩
  · rw [if_neg c1]
    obtain ⟨x, z1, e, hx0, hx1⟩ := spec_l1Cur_next.some_ hs (z := z) h0 (by omega)
    rw [e, Option.bind_some]
    dsimp only
    by_cases c2 : n > 200
    · rw [if_pos c2]
      obtain ⟨y, z2, e2, hy0, hy1⟩ := spec_l1Cur_next.some_ hs (a := a + 1) (z := z1) (by omega) (by omega)
      rw [e2, Option.bind_some, if_neg (by omega)]
      refine ⟨_, a + 1 + 1, _, rfl, ?_, Int.tmod_lt_of_pos _ (by omega), by omega, by omega⟩
      rw [wrap_id (i := x * 256) (by omega) (by omega), wrap_id (by omega) (by omega)]
      exact Int.tmod_nonneg _ (by omega)
    · rw [if_neg c2, if_neg (by omega)]
      exact ⟨_, a + 1, _, rfl, Int.tmod_nonneg _ hx0, Int.tmod_lt_of_pos _ (by omega), by omega, by omega⟩

theorem spec_l1Cur_one.some_ {s : List Int} (hs : Bytes s) {a z n : Int} (h0 : 0 ≤ a) (h1 : a ≤ 4611686018427387000) (hn : 1 ≤ n) : ∃ x b z', spec_l1Cur_one.f s a z n = some (x, b, z') ∧ a ≤ b ∧ b ≤ a + 2 := by
  unfold spec_l1Cur_one.f
  obtain ⟨x, b, z1, e, hx0, hx1, hb0, hb1⟩ := spec_l1Cur_pick.some_ hs (z := z) h0 h1 hn
  rw [e, Option.bind_some]
  exact ⟨_, _, _, rfl, hb0, hb1⟩

theorem spec_l1Cur_length.some_ {s : List Int} (hs : Bytes s) {a z : Int} (h0 : 0 ≤ a) (h1 : a ≤ 4611686018427386000) : ∃ x b z', spec_l1Cur_length.f s a z = some (x, b, z') ∧ 0 ≤ x ∧ x ≤ 81 ∧ a ≤ b ∧ b ≤ a + 4 := by
  unfold spec_l1Cur_length.f
  obtain ⟨x, b, z1, e, hb0, hb1⟩ := spec_l1Cur_one.some_ hs (z := z) (n := 20) h0 (by omega) (by decide)
  rw [e, Option.bind_some]
  dsimp only
  cases x with
  | true =>
    obtain ⟨y, c, z2, e2, hy0, hy1, hc0, hc1⟩ := spec_l1Cur_pick.some_ hs (a := b) (z := z1) (n := 2) (by omega) (by omega) (by decide)
    rw [if_pos rfl, e2, Option.bind_some]
    dsimp only
    rw [wrap_id (by omega) (by omega)]
    exact ⟨80 + y, c, _, rfl, by omega, by omega, by omega, by omega⟩
  | false =>
    obtain ⟨y, c, z2, e2, hy0, hy1, hc0, hc1⟩ := spec_l1Cur_pick.some_ hs (a := b) (z := z1) (n := 7) (by omega) (by omega) (by decide)
    rw [if_neg (by decide), e2, Option.bind_some]
    exact ⟨y, c, _, rfl, by omega, by omega, by omega, by omega⟩

theorem spec_l1Cur_among.some_ {s : List Int} (hs : Bytes s) {a z : Int} {l : List Int} (h0 : 0 ≤ a) (h1 : a ≤ 4611686018427387000) (hl : 1 ≤ l.length) : ∃ x b z', spec_l1Cur_among.f s a z l = some (x, b, z') ∧ a ≤ b ∧ b ≤ a + 2 := by
  unfold spec_l1Cur_among.f
  obtain ⟨x, b, z1, e, hx0, hx1, hb0, hb1⟩ := spec_l1Cur_pick.some_ hs (z := z) (n := (l.length : Int)) h0 h1 (by omega)
  rw [e, Option.bind_some, if_pos hx0, if_pos hx1]
  exact ⟨_, _, _, rfl, hb0, hb1⟩

theorem spec_l1Cur_byte.some_ {s : List Int} (hs : Bytes s) {a z : Int} (h0 : 0 ≤ a) (h1 : a ≤ 4611686018427386000) : ∃ x b z', spec_l1Cur_byte.f s a z = some (x, b, z') ∧ Byte x ∧ a ≤ b ∧ b ≤ a + 4 := by
  unfold spec_l1Cur_byte.f
  obtain ⟨x, b, z1, e, hb0, hb1⟩ := spec_l1Cur_one.some_ hs (z := z) (n := 5) h0 (by omega) (by decide)
  rw [e, Option.bind_some]
  dsimp only
  have hm : ∀ v : Int, Byte (v % 256) := fun v => ⟨Int.emod_nonneg _ (by decide), Int.emod_lt_of_pos _ (by decide)⟩
  cases x with
  | true =>
    obtain ⟨y, c, z2, e2, hc0, hc1⟩ := spec_l1Cur_among.some_ hs (a := b) (z := z1) (l := [0, 1, 2, 3, 255, 27]) (by omega) (by omega) (by decide)
    rw [if_pos rfl, e2, Option.bind_some]
    exact ⟨_, c, _, rfl, hm _, by omega, by omega⟩
  | false =>
    obtain ⟨y, c, z2, e2, _, _, hc0, hc1⟩ := spec_l1Cur_pick.some_ hs (a := b) (z := z1) (n := 256) (by omega) (by omega) (by decide)
    rw [if_neg (by decide), e2, Option.bind_some]
    exact ⟨_, c, _, rfl, hm _, by omega, by omega⟩

set_option maxRecDepth 4000 in
theorem spec_l1Cur_vector.some_l0 {s : List Int} (hs : Bytes s) : ∀ (n : Nat) (o : List Int) (a z : Int), n ≤ 100 → 0 ≤ a → a + 4 * n ≤ 4611686018427380000 → o.length + n ≤ 200 → ∃ r b z', Ev (fun k => spec_l1Cur_vector.l0 k (n : Int) o s a z) (o ++ r, b, z') ∧ Bytes r ∧ r.length = n ∧ a ≤ b ∧ b ≤ a + 4 * n
  | 0, o, a, z, _, h0, h1, _ => by
    refine ⟨[], a, z, ?_, fun x hx => (by cases hx), rfl, by omega, by omega⟩
    refine Ev.step (fun k => spec_l1Cur_vector.l0.eq_2 _ _ _ _ _ k) ?_
    refine ev_neg (by omega) (ev_now ?_)
    rw [List.append_nil]
  | n + 1, o, a, z, hn, h0, h1, ho => by
    obtain ⟨x, b, z1, e, hx, hb0, hb1⟩ := spec_l1Cur_byte.some_ hs (a := a) (z := z) h0 (by omega)
    obtain ⟨r, c, z2, he, hr, hrl, hc0, hc1⟩ := spec_l1Cur_vector.some_l0 hs n (o ++ [x]) b z1 (by omega) (by omega) (by omega) (by rw [List.length_append]; simp; omega)
    refine ⟨x :: r, c, z2, ?_, fun y hy => ?_, by rw [List.length_cons, hrl], by omega, by omega⟩
    · refine Ev.step (fun k => spec_l1Cur_vector.l0.eq_2 _ _ _ _ _ k) ?_
      refine ev_pos (by omega) ?_
      rw [e]
      simp only [Option.bind_some]
      refine ev_pos (by omega) ?_
      rw [show wrap64 (((n + 1 : Nat) : Int) - 1) = (n : Int) by rw [wrap_id (by omega) (by omega)]; omega]
      rw [List.append_assoc] at he
      exact he
    · rcases List.mem_cons.1 hy with rfl | h
      · exact hx
      · exact hr y h
theorem spec_l1Cur_vector.some_ {s : List Int} (hs : Bytes s) {n a z : Int} (hn0 : 0 ≤ n) (hn : n ≤ 100) (h0 : 0 ≤ a) (h1 : a ≤ 4611686018427370000) : ∃ r b z', Ev (fun k => spec_l1Cur_vector.f k s a z n) (r, b, z') ∧ Bytes r ∧ a ≤ b ∧ b ≤ a + 400 := by
  obtain ⟨m, rfl⟩ := Int.eq_ofNat_of_zero_le hn0
  obtain ⟨r, b, z', he, hr, _, hb0, hb1⟩ := spec_l1Cur_vector.some_l0 hs m [] a z (by omega) h0 (by omega) (by simp; omega)
  exact ⟨r, b, z', he, hr, hb0, by omega⟩

theorem spec_DrawAddVectors.some_ {s : List Int} (hs : Bytes s) : ∃ v w, Ev (fun k => spec_DrawAddVectors.f k s) (v, w) ∧ Bytes v ∧ Bytes w := by
  obtain ⟨n, a, z, e, hn0, hn1, ha0, ha1⟩ := spec_l1Cur_length.some_ hs (a := 0) (z := 0) (by decide) (by decide)
  obtain ⟨q, b, z1, e1, hb0, hb1⟩ := spec_l1Cur_one.some_ hs (a := a) (z := z) (n := 12) (by omega) (by omega) (by decide)
  obtain ⟨v, c, z2, e2, hv, hc0, hc1⟩ := spec_l1Cur_vector.some_ hs (n := n) (a := b) (z := z1) hn0 (by omega) (by omega) (by omega)
  have hw1 : wrap64 (n + 1) = n + 1 := wrap_id (by omega) (by omega)
  cases q with
  | true =>
    obtain ⟨w, d, z3, e3, hw, _, _⟩ := spec_l1Cur_vector.some_ hs (n := n + 1) (a := c) (z := z2) (by omega) (by omega) (by omega) (by omega)
    refine ⟨v, w, ?_, hv, hw⟩
    unfold spec_DrawAddVectors.f spec_DrawAddVectors.g
    rw [e]
    simp only [Option.bind_some]
    rw [e1]
    simp only [Option.bind_some, if_true]
    rw [hw1]
    exact ev_bind (ev_bind e2 (ev_bind e3 (ev_now rfl))) (ev_now rfl)
  | false =>
    obtain ⟨w, d, z3, e3, hw, _, _⟩ := spec_l1Cur_vector.some_ hs (n := n) (a := c) (z := z2) hn0 (by omega) (by omega) (by omega)
    refine ⟨v, w, ?_, hv, hw⟩
    unfold spec_DrawAddVectors.f spec_DrawAddVectors.g
    rw [e]
    simp only [Option.bind_some]
    rw [e1]
    simp only [Option.bind_some]
    exact ev_bind (ev_neg (by decide) (ev_bind e2 (ev_bind e3 (ev_now rfl)))) (ev_now rfl)

theorem impl_added.ev_l0 (v w : List Int) (hv : Bytes v) (hw : Bytes w) (hl : v.length = w.length) (hs : v.length < 140737488355328) : ∀ (n i : Nat) (o : List Int), i + n = v.length → o = (addV v w).take i →
    Ev (fun k => impl_added.l0 k w o v (v.length : Int) (i : Int)) (addV v w)
  | 0, i, o, hi, ho => by
    refine Ev.step (fun k => impl_added.l0.eq_2 _ _ _ _ _ k) ?_
    refine ev_neg (by omega) (ev_now ?_)
    subst ho
    rw [List.take_of_length_le (by rw [addV_length]; omega)]
  | n + 1, i, o, hi, ho => by
    have hz := addV_length v w
    have hlen : o.length = i := by rw [ho, List.length_take, hz]; omega
    refine Ev.step (fun k => impl_added.l0.eq_2 _ _ _ _ _ k) ?_
    refine ev_pos (by omega) (ev_pos (by omega) (ev_pos (by omega) (ev_pos (by omega) (ev_pos (by omega) ?_))))
    rw [inc (by omega), xor_u8 (bytes_rd hv (by omega)) (bytes_rd hw (by omega)), rd_get (by omega), rd_get (by omega)]
    refine impl_added.ev_l0 v w hv hw hl hs n (i + 1) _ (by omega) ?_
    rw [List.take_succ_eq_append_getElem (by omega), ← ho]
    simp [addV]
theorem impl_added.ev {v w : List Int} (hv : Bytes v) (hw : Bytes w) (hl : v.length = w.length) (hs : v.length < 140737488355328) : Ev (fun k => impl_added.f k v w) (addV v w) := by
  unfold impl_added.f
  exact impl_added.ev_l0 v w hv hw hl hs v.length 0 [] (by omega) rfl

def impl_AddVectors.val (v w : List Int) : List Int × Bool := if 80 < v.length ∨ v.length ≠ w.length then ([], false) else (addV v w, true)
theorem impl_AddVectors.ev {v w : List Int} (hv : Bytes v) (hw : Bytes w) : Ev (fun k => impl_AddVectors.f k v w) (impl_AddVectors.val v w) := by
  unfold impl_AddVectors.f impl_AddVectors.val
  by_cases h1 : 80 < v.length
  · rw [if_pos (Or.inl h1)]
    exact ev_pos (by omega) (ev_now rfl)
  · by_cases h2 : v.length = w.length
    · rw [if_neg (by omega)]
      exact ev_neg (by omega) (ev_pos (by omega) (ev_bind (impl_added.ev hv hw h2 (by omega)) (ev_now rfl)))
    · rw [if_pos (Or.inr h2)]
      exact ev_neg (by omega) (ev_neg (by omega) (ev_now rfl))

theorem spec_l1Add.ev_l0 (v w : List Int) (hv : Bytes v) (hw : Bytes w) (hl : v.length = w.length) (hs : v.length < 140737488355328) : ∀ (n i : Nat) (o : List Int), i + n = v.length → o = (addV v w).take i →
    Ev (fun k => spec_l1Add.l0 k v w o (v.length : Int) (i : Int)) (addV v w)
  | 0, i, o, hi, ho => by
    refine Ev.step (fun k => spec_l1Add.l0.eq_2 _ _ _ _ _ k) ?_
    refine ev_neg (by omega) (ev_now ?_)
    subst ho
    rw [List.take_of_length_le (by rw [addV_length]; omega)]
  | n + 1, i, o, hi, ho => by
    have hz := addV_length v w
    have hlen : o.length = i := by rw [ho, List.length_take, hz]; omega
    refine Ev.step (fun k => spec_l1Add.l0.eq_2 _ _ _ _ _ k) ?_
    refine ev_pos (by omega) (ev_pos (by omega) (ev_pos (by omega) (ev_pos (by omega) (ev_pos (by omega) ?_))))
    rw [inc (by omega), xor_u8 (bytes_rd hv (by omega)) (bytes_rd hw (by omega)), rd_get (by omega), rd_get (by omega)]
    refine spec_l1Add.ev_l0 v w hv hw hl hs n (i + 1) _ (by omega) ?_
    rw [List.take_succ_eq_append_getElem (by omega), ← ho]
    simp [addV]
theorem spec_l1Add.ev {v w : List Int} (hv : Bytes v) (hw : Bytes w) (hl : v.length = w.length) (hs : v.length < 140737488355328) : Ev (fun k => spec_l1Add.f k v w) (addV v w) := by
  unfold spec_l1Add.f
  exact spec_l1Add.ev_l0 v w hv hw hl hs v.length 0 [] (by omega) rfl

def spec_AddVectors.val (v w : List Int) : List Int × Bool := if 80 < v.length ∨ v.length ≠ w.length then ([], false) else (addV v w, true)
theorem spec_AddVectors.ev {v w : List Int} (hv : Bytes v) (hw : Bytes w) : Ev (fun k => spec_AddVectors.f k v w) (spec_AddVectors.val v w) := by
  unfold spec_AddVectors.f spec_AddVectors.val
  by_cases h1 : 80 < v.length
  · rw [if_pos (Or.inl h1)]
    exact ev_pos (by omega) (ev_now rfl)
  · by_cases h2 : v.length = w.length
    · rw [if_neg (by omega)]
      exact ev_neg (by omega) (ev_pos (by omega) (ev_bind (spec_l1Add.ev hv hw h2 (by omega)) (ev_now rfl)))
    · rw [if_pos (Or.inr h2)]
      exact ev_neg (by omega) (ev_neg (by omega) (ev_now rfl))

theorem impl_dot.ev_l0 (v w : List Int) (hv : Bytes v) (hw : Bytes w) (hl : v.length = w.length) (hs : v.length < 140737488355328) : ∀ (n i : Nat) (o : Int), i + n = v.length → Byte o →
    Ev (fun k => impl_dot.l0 k w o v (v.length : Int) (i : Int)) (gx o (dotV (v.drop i) (w.drop i)))
  | 0, i, o, hi, ho => by
    refine Ev.step (fun k => impl_dot.l0.eq_2 _ _ _ _ _ k) ?_
    refine ev_neg (by omega) (ev_now ?_)
    rw [List.drop_of_length_le (by omega)]
    exact (gx_zero ho).symm
  | n + 1, i, o, hi, ho => by
    refine Ev.step (fun k => impl_dot.l0.eq_2 _ _ _ _ _ k) ?_
    refine ev_pos (by omega) (ev_pos (by omega) (ev_pos (by omega) (ev_pos (by omega) ?_)))
    have bv : Byte (rd v (i : Int)) := bytes_rd hv (by omega)
    have bw : Byte (rd w (i : Int)) := bytes_rd hw (by omega)
    refine ev_bind (impl_Times.ev bv bw) ?_
    have bm := Byte.mul bv (rd w (i : Int))
    have bg := Byte.gx ho bm
    rw [inc (by omega), xor_u8 ho bm]
    refine ev_eq (impl_dot.ev_l0 v w hv hw hl hs n (i + 1) _ (by omega) bg) ?_
    rw [drop_cons (l := v) (i := i) (by omega), drop_cons (l := w) (i := i) (by omega), rd_get (by omega), rd_get (by omega), dotV, gx_assoc]
theorem impl_dot.ev {v w : List Int} (hv : Bytes v) (hw : Bytes w) (hl : v.length = w.length) (hs : v.length < 140737488355328) : Ev (fun k => impl_dot.f k v w) (dotV v w) := by
  unfold impl_dot.f
  refine ev_eq (impl_dot.ev_l0 v w hv hw hl hs v.length 0 0 (by omega) .zero) ?_
  exact zero_gx (dotV_byte hv)

def impl_DotVectors.val (v w : List Int) : Int × Bool := if 80 < v.length ∨ v.length ≠ w.length then (0, false) else (dotV v w, true)
theorem impl_DotVectors.ev {v w : List Int} (hv : Bytes v) (hw : Bytes w) : Ev (fun k => impl_DotVectors.f k v w) (impl_DotVectors.val v w) := by
  unfold impl_DotVectors.f impl_DotVectors.val
  by_cases h1 : 80 < v.length
  · rw [if_pos (Or.inl h1)]
    exact ev_pos (by omega) (ev_now rfl)
  · by_cases h2 : v.length = w.length
    · rw [if_neg (by omega)]
      exact ev_neg (by omega) (ev_pos (by omega) (ev_bind (impl_dot.ev hv hw h2 (by omega)) (ev_now rfl)))
    · rw [if_pos (Or.inr h2)]
      exact ev_neg (by omega) (ev_neg (by omega) (ev_now rfl))

theorem spec_l1Times.ev_l0 : ∀ (n o x y : Nat), y < 2 ^ n → n ≤ 8 → o < 256 → x < 256 →
    Ev (fun k => spec_l1Times.l0 k (o : Int) (x : Int) (y : Int)) ((T n o x y : Nat) : Int)
  | 0, o, x, y, hy, _, ho, hx => by
    refine Ev.step (fun k => spec_l1Times.l0.eq_2 _ _ _ k) ?_
    have : y = 0 := by simpa using hy
    subst this
    refine ev_neg (by decide) (ev_now ?_)
    simp only [T]
    omega
  | n + 1, o, x, y, hy, hn, ho, hx => by
    have hy8 : y < 256 := Nat.lt_of_lt_of_le hy (Nat.pow_le_pow_right (n := 2) (by decide) hn)
    by_cases h0 : y = 0
    · subst h0
      refine Ev.step (fun k => spec_l1Times.l0.eq_2 _ _ _ k) ?_
      refine ev_neg (by decide) (ev_now ?_)
      rw [T_zero]
      omega
    refine Ev.step (fun k => spec_l1Times.l0.eq_2 _ _ _ k) ?_
    refine ev_pos (by omega) ?_
    have e2 : wrap64 ((x : Int) * 2) = ((2 * x : Nat) : Int) := by rw [wrap_id (by omega) (by omega)]; omega
    have e3 : ((y : Int) / 2) = ((y / 2 : Nat) : Int) := by omega
    have e4 : Go.bits .xor .i64 (o : Int) (x : Int) = ((o ^^^ x : Nat) : Int) := xor_i64 (by omega) (by omega)
    have e5 : Go.bits .xor .i64 ((2 * x : Nat) : Int) 283 = ((2 * x ^^^ 283 : Nat) : Int) := xor_i64 (m := 2 * x) (n := 283) (by omega) (by omega)
    rw [and1_i64 (by omega), e2, e3, e4, e5]
    have hT : T (n + 1) o x y = T n (if y % 2 = 1 then o ^^^ x else o) (xt x) (y / 2) := by rw [T]
    rw [hT]
    have hxt := xt_lt hx
    have hox := xor_lt ho hx
    have hh : y / 2 < 2 ^ n := by rw [Nat.pow_succ] at hy; omega
    by_cases h1 : y % 2 = 1
    · rw [if_pos h1]
      refine ev_pos (by omega) ?_
      by_cases h2 : 2 * x > 255
      · refine ev_pos (by omega) ?_
        have : xt x = 2 * x ^^^ 283 := by unfold xt; rw [if_pos h2]
        rw [this] at hxt ⊢
        exact spec_l1Times.ev_l0 n _ _ _ hh (by omega) hox hxt
      · refine ev_neg (by omega) ?_
        have : xt x = 2 * x := by unfold xt; rw [if_neg h2]
        rw [this] at hxt ⊢
        exact spec_l1Times.ev_l0 n _ _ _ hh (by omega) hox hxt
    · rw [if_neg h1]
      refine ev_neg (by omega) ?_
      by_cases h2 : 2 * x > 255
      · refine ev_pos (by omega) ?_
        have : xt x = 2 * x ^^^ 283 := by unfold xt; rw [if_pos h2]
        rw [this] at hxt ⊢
        exact spec_l1Times.ev_l0 n _ _ _ hh (by omega) ho hxt
      · refine ev_neg (by omega) ?_
        have : xt x = 2 * x := by unfold xt; rw [if_neg h2]
        rw [this] at hxt ⊢
        exact spec_l1Times.ev_l0 n _ _ _ hh (by omega) ho hxt
theorem spec_l1Times.ev {a b : Int} (ha : Byte a) (hb : Byte b) : Ev (fun k => spec_l1Times.f k a b) (mul a b) := by
  obtain ⟨m, hm, rfl⟩ := ha.nat
  obtain ⟨n, hn, rfl⟩ := hb.nat
  unfold spec_l1Times.f
  rw [wrap_id (i := (m : Int)) (by omega) (by omega), wrap_id (i := (n : Int)) (by omega) (by omega)]
  have h := spec_l1Times.ev_l0 8 0 m n hn (Nat.le_refl _) (by decide) hm
  exact ev_eq h (by unfold Gf.mul gm; simp)

theorem spec_l1Dot.ev_l0 (v w : List Int) (hv : Bytes v) (hw : Bytes w) (hl : v.length = w.length) (hs : v.length < 140737488355328) : ∀ (n i : Nat) (o : Int), i + n = v.length → Byte o →
    Ev (fun k => spec_l1Dot.l0 k v w o (v.length : Int) (i : Int)) (gx o (dotV (v.drop i) (w.drop i)))
  | 0, i, o, hi, ho => by
    refine Ev.step (fun k => spec_l1Dot.l0.eq_2 _ _ _ _ _ k) ?_
    refine ev_neg (by omega) (ev_now ?_)
    rw [List.drop_of_length_le (by omega)]
    exact (gx_zero ho).symm
  | n + 1, i, o, hi, ho => by
    refine Ev.step (fun k => spec_l1Dot.l0.eq_2 _ _ _ _ _ k) ?_
    refine ev_pos (by omega) (ev_pos (by omega) (ev_pos (by omega) (ev_pos (by omega) ?_)))
    have bv : Byte (rd v (i : Int)) := bytes_rd hv (by omega)
    have bw : Byte (rd w (i : Int)) := bytes_rd hw (by omega)
    refine ev_bind (spec_l1Times.ev bv bw) ?_
    have bm := Byte.mul bv (rd w (i : Int))
    have bg := Byte.gx ho bm
    rw [inc (by omega), xor_u8 ho bm]
    refine ev_eq (spec_l1Dot.ev_l0 v w hv hw hl hs n (i + 1) _ (by omega) bg) ?_
    rw [drop_cons (l := v) (i := i) (by omega), drop_cons (l := w) (i := i) (by omega), rd_get (by omega), rd_get (by omega), dotV, gx_assoc]
theorem spec_l1Dot.ev {v w : List Int} (hv : Bytes v) (hw : Bytes w) (hl : v.length = w.length) (hs : v.length < 140737488355328) : Ev (fun k => spec_l1Dot.f k v w) (dotV v w) := by
  unfold spec_l1Dot.f
  refine ev_eq (spec_l1Dot.ev_l0 v w hv hw hl hs v.length 0 0 (by omega) .zero) ?_
  exact zero_gx (dotV_byte hv)

def spec_DotVectors.val (v w : List Int) : Int × Bool := if 80 < v.length ∨ v.length ≠ w.length then (0, false) else (dotV v w, true)
theorem spec_DotVectors.ev {v w : List Int} (hv : Bytes v) (hw : Bytes w) : Ev (fun k => spec_DotVectors.f k v w) (spec_DotVectors.val v w) := by
  unfold spec_DotVectors.f spec_DotVectors.val
  by_cases h1 : 80 < v.length
  · rw [if_pos (Or.inl h1)]
    exact ev_pos (by omega) (ev_now rfl)
  · by_cases h2 : v.length = w.length
    · rw [if_neg (by omega)]
      exact ev_neg (by omega) (ev_pos (by omega) (ev_bind (spec_l1Dot.ev hv hw h2 (by omega)) (ev_now rfl)))
    · rw [if_pos (Or.inr h2)]
      exact ev_neg (by omega) (ev_neg (by omega) (ev_now rfl))

theorem laws_sameBytes.ev (l : List Int) : laws_sameBytes.f l l = some true := by
  unfold laws_sameBytes.f
  rw [beq_self_eq_true]

theorem laws_numberOf.some_l0 (l : List Int) (hl : l.length ≤ 9223372036854775807) : ∀ (n i : Nat) (x : Int), i + n = l.length → ∃ t, Ev (fun k => laws_numberOf.l0 k x l (l.length : Int) (i : Int)) t
  | 0, i, x, hi => by
    refine ⟨x, Ev.step (fun k => laws_numberOf.l0.eq_2 _ _ _ _ k) ?_⟩
    exact ev_neg (by omega) (ev_now rfl)
  | n + 1, i, x, hi => by
    obtain ⟨t, ht⟩ := laws_numberOf.some_l0 l hl n (i + 1) (Int.tmod (wrap64 ((wrap64 (31 * x)) + (wrap64 (rd l (i : Int))))) 1000003) (by omega)
    refine ⟨t, Ev.step (fun k => laws_numberOf.l0.eq_2 _ _ _ _ k) ?_⟩
    refine ev_pos (by omega) (ev_pos (by omega) (ev_pos (by omega) ?_))
    rw [show wrap64 ((i : Int) + 1) = ((i + 1 : Nat) : Int) by rw [wrap_id (by omega) (by omega)]; omega]
    exact ht
theorem laws_numberOf.some_ (l : List Int) (hl : l.length ≤ 9223372036854775807) : ∃ t, Ev (fun k => laws_numberOf.f k l) t := laws_numberOf.some_l0 l hl l.length 0 0 (by omega)

theorem impl_scaled.ev_l0 (a : Int) (ha : Byte a) (v : List Int) (hv : Bytes v) (hs : v.length < 140737488355328) : ∀ (n i : Nat) (o : List Int), i + n = v.length → o = (scale a v).take i →
    Ev (fun k => impl_scaled.l0 k a o v (v.length : Int) (i : Int)) (scale a v)
  | 0, i, o, hi, ho => by
    refine Ev.step (fun k => impl_scaled.l0.eq_2 _ _ _ _ _ k) ?_
    refine ev_neg (by omega) (ev_now ?_)
    subst ho
    rw [List.take_of_length_le (by rw [scale_length]; omega)]
  | n + 1, i, o, hi, ho => by
    have hz := scale_length a v
    have hlen : o.length = i := by rw [ho, List.length_take, hz]; omega
    refine Ev.step (fun k => impl_scaled.l0.eq_2 _ _ _ _ _ k) ?_
    refine ev_pos (by omega) (ev_pos (by omega) (ev_pos (by omega) ?_))
    refine ev_bind (impl_Times.ev ha (bytes_rd hv (by omega))) ?_
    refine ev_pos (by omega) ?_
    rw [inc (by omega), rd_get (by omega)]
    refine impl_scaled.ev_l0 a ha v hv hs n (i + 1) _ (by omega) ?_
    rw [List.take_succ_eq_append_getElem (by omega), ← ho]
    simp [scale]
theorem impl_scaled.ev {a : Int} (ha : Byte a) {v : List Int} (hv : Bytes v) (hs : v.length < 140737488355328) : Ev (fun k => impl_scaled.f k a v) (scale a v) := by
  unfold impl_scaled.f
  exact impl_scaled.ev_l0 a ha v hv hs v.length 0 [] (by omega) rfl

def impl_ScaleVector.val (a : Int) (v : List Int) : List Int × Bool := if 80 < v.length then ([], false) else (scale a v, true)
theorem impl_ScaleVector.ev {a : Int} (ha : Byte a) {v : List Int} (hv : Bytes v) : Ev (fun k => impl_ScaleVector.f k a v) (impl_ScaleVector.val a v) := by
  unfold impl_ScaleVector.f impl_ScaleVector.val
  by_cases h1 : 80 < v.length
  · rw [if_pos h1]
    exact ev_pos (by omega) (ev_now rfl)
  · rw [if_neg h1]
    exact ev_neg (by omega) (ev_bind (impl_scaled.ev ha hv (by omega)) (ev_now rfl))

theorem spec_l1Scale.ev_l0 (a : Int) (ha : Byte a) (v : List Int) (hv : Bytes v) (hs : v.length < 140737488355328) : ∀ (n i : Nat) (o : List Int), i + n = v.length → o = (scale a v).take i →
    Ev (fun k => spec_l1Scale.l0 k a o v (v.length : Int) (i : Int)) (scale a v)
  | 0, i, o, hi, ho => by
    refine Ev.step (fun k => spec_l1Scale.l0.eq_2 _ _ _ _ _ k) ?_
    refine ev_neg (by omega) (ev_now ?_)
    subst ho
    rw [List.take_of_length_le (by rw [scale_length]; omega)]
  | n + 1, i, o, hi, ho => by
    have hz := scale_length a v
    have hlen : o.length = i := by rw [ho, List.length_take, hz]; omega
    refine Ev.step (fun k => spec_l1Scale.l0.eq_2 _ _ _ _ _ k) ?_
    refine ev_pos (by omega) (ev_pos (by omega) (ev_pos (by omega) ?_))
    refine ev_bind (spec_l1Times.ev ha (bytes_rd hv (by omega))) ?_
    refine ev_pos (by omega) ?_
    rw [inc (by omega), rd_get (by omega)]
    refine spec_l1Scale.ev_l0 a ha v hv hs n (i + 1) _ (by omega) ?_
    rw [List.take_succ_eq_append_getElem (by omega), ← ho]
    simp [scale]
theorem spec_l1Scale.ev {a : Int} (ha : Byte a) {v : List Int} (hv : Bytes v) (hs : v.length < 140737488355328) : Ev (fun k => spec_l1Scale.f k a v) (scale a v) := by
  unfold spec_l1Scale.f
  exact spec_l1Scale.ev_l0 a ha v hv hs v.length 0 [] (by omega) rfl

def spec_ScaleVector.val (a : Int) (v : List Int) : List Int × Bool := if 80 < v.length then ([], false) else (scale a v, true)
theorem spec_ScaleVector.ev {a : Int} (ha : Byte a) {v : List Int} (hv : Bytes v) : Ev (fun k => spec_ScaleVector.f k a v) (spec_ScaleVector.val a v) := by
  unfold spec_ScaleVector.f spec_ScaleVector.val
  by_cases h1 : 80 < v.length
  · rw [if_pos h1]
    exact ev_pos (by omega) (ev_now rfl)
  · rw [if_neg h1]
    exact ev_neg (by omega) (ev_bind (spec_l1Scale.ev ha hv (by omega)) (ev_now rfl))

theorem addV_back : ∀ {v w : List Int}, Bytes v → v.length = w.length → addV (addV v w) w = v
  | [], [], _, _ => rfl
  | a :: v, b :: w, hv, hl => by
    have ih := addV_back (v := v) (w := w) (fun x hx => hv x (List.mem_cons_of_mem _ hx)) (by simpa using hl)
    show gx (gx a b) b :: addV (addV v w) w = a :: v
    rw [ih, gx_assoc, gx_self, gx_zero (hv a (List.mem_cons_self ..))]
theorem dot_scale : ∀ {a : Int} {v w : List Int}, Byte a → Bytes v → Bytes w → dotV (scale a v) w = mul a (dotV v w)
  | a, [], w, _, _, _ => by simp [scale, dotV, mul_zero]
  | a, x :: v, [], _, _, _ => by simp [scale, dotV, mul_zero]
  | a, x :: v, y :: w, ha, hv, hw => by
    have ih := dot_scale (v := v) (w := w) ha (fun z hz => hv z (List.mem_cons_of_mem _ hz)) (fun z hz => hw z (List.mem_cons_of_mem _ hz))
    show gx (mul (mul a x) y) (dotV (scale a v) w) = mul a (gx (mul x y) (dotV v w))
    rw [ih, mul_gx, mul_assoc ha (hv x (List.mem_cons_self ..)) (hw y (List.mem_cons_self ..))]
theorem sq_gx {a b : Int} (ha : Byte a) (hb : Byte b) : mul (gx a b) (gx a b) = gx (mul a a) (mul b b) := by
  rw [mul_gx, gx_mul ha hb, gx_mul ha hb, mul_comm hb ha, gx_assoc, gx_cancel (hb.mul b)]
theorem dot_sum : ∀ {v w : List Int}, Bytes v → Bytes w → v.length = w.length → dotV (addV v w) (addV v w) = gx (dotV v v) (dotV w w)
  | [], [], _, _, _ => by simp [addV, dotV, gx_self]
  | a :: v, b :: w, hv, hw, hl => by
    have ih := dot_sum (v := v) (w := w) (fun z hz => hv z (List.mem_cons_of_mem _ hz)) (fun z hz => hw z (List.mem_cons_of_mem _ hz)) (by simpa using hl)
    show gx (mul (gx a b) (gx a b)) (dotV (addV v w) (addV v w)) = gx (gx (mul a a) (dotV v v)) (gx (mul b b) (dotV w w))
    rw [ih, sq_gx (hv a (List.mem_cons_self ..)) (hw b (List.mem_cons_self ..)), gx_assoc, gx_assoc, gx_left_comm (mul b b)]
theorem FnVectors : ∀ (l0 l1 : List Int), (l0.length ≤ maxLen ∧ ∀ x ∈ l0, (Lit.int .u8 x).wf = true) → (l1.length ≤ maxLen ∧ ∀ x ∈ l1, (Lit.int .u8 x).wf = true) → ∃ k, laws_FnVectors.f k l0 l1 = some true := by
  intro l0 l1 h0 h1
  refine Ev.rounds ?_
  unfold laws_FnVectors.f
  by_cases hz : wrap64 ((l0.length : Int) + (l1.length : Int)) > 1048576
  · exact ev_pos hz (ev_now rfl)
  · refine ev_neg hz ?_
    have hm := h1.1
    unfold maxLen at hm
    obtain ⟨v, w, e, hv, hw⟩ := spec_DrawAddVectors.some_ (Bytes.of_wf h0.2)
    obtain ⟨t, ht⟩ := laws_numberOf.some_ l1 (by omega)
    refine ev_bind e (ev_bind (impl_AddVectors.ev hv hw) (ev_bind (spec_AddVectors.ev hv hw) (ev_bind (impl_DotVectors.ev hv hw) (ev_bind (spec_DotVectors.ev hv hw) ?_))))
    by_cases c : 80 < v.length ∨ v.length ≠ w.length
    · rw [show impl_AddVectors.val v w = ([], false) from if_pos c, show spec_AddVectors.val v w = ([], false) from if_pos c, show impl_DotVectors.val v w = (0, false) from if_pos c, show spec_DotVectors.val v w = (0, false) from if_pos c]
      simp only [laws_sameBytes.ev, Option.bind_some]
      refine ev_neg (by simp) (ev_pos (by trivial) (ev_neg (by simp) ?_))
      refine Ev.step (fun k => laws_FnVectors.j0.eq_2 _ _ _ _ _ _ _ k) ?_
      exact ev_neg (by simp) (ev_neg (by simp) (ev_now rfl))
    · rw [show impl_AddVectors.val v w = (addV v w, true) from if_neg c, show spec_AddVectors.val v w = (addV v w, true) from if_neg c, show impl_DotVectors.val v w = (dotV v w, true) from if_neg c, show spec_DotVectors.val v w = (dotV v w, true) from if_neg c]
      simp only [laws_sameBytes.ev, Option.bind_some]
      refine ev_neg (by simp) (ev_pos (by trivial) (ev_neg (by simp) ?_))
      refine Ev.step (fun k => laws_FnVectors.j0.eq_2 _ _ _ _ _ _ _ k) ?_
      have hl : v.length = w.length := by omega
      have hl8 : v.length ≤ 80 := by omega
      have hs := addV_bytes hv hw
      have hsl : (addV v w).length = v.length := by rw [addV_length]; omega
      have hb : Byte (t % 256) := ⟨Int.emod_nonneg _ (by decide), Int.emod_lt_of_pos _ (by decide)⟩
      refine ev_neg (by simp) (ev_pos (by trivial) ?_)
      refine ev_bind ht (ev_bind (impl_ScaleVector.ev hb hv) (ev_bind (spec_ScaleVector.ev hb hv) ?_))
      rw [show impl_ScaleVector.val (t % 256) v = (scale (t % 256) v, true) from if_neg (by omega), show spec_ScaleVector.val (t % 256) v = (scale (t % 256) v, true) from if_neg (by omega)]
      refine ev_bind (impl_DotVectors.ev (scale_bytes hb v) hw) (ev_bind (impl_AddVectors.ev hs hw) (ev_bind (impl_DotVectors.ev hs hs) (ev_bind (impl_DotVectors.ev hv hv) (ev_bind (impl_DotVectors.ev hw hw) ?_))))
      rw [show impl_DotVectors.val (scale (t % 256) v) w = (dotV (scale (t % 256) v) w, true) from if_neg (by rw [scale_length]; omega), show impl_AddVectors.val (addV v w) w = (addV (addV v w) w, true) from if_neg (by omega), show impl_DotVectors.val (addV v w) (addV v w) = (dotV (addV v w) (addV v w), true) from if_neg (by omega), show impl_DotVectors.val v v = (dotV v v, true) from if_neg (by omega), show impl_DotVectors.val w w = (dotV w w, true) from if_neg (by omega), addV_back hv hl]
      simp only [laws_sameBytes.ev, Option.bind_some]
      refine ev_pos (by trivial) (ev_pos (by trivial) (ev_pos (by trivial) (ev_pos (by trivial) (ev_bind (impl_Times.ev hb (dotV_byte hv)) (ev_pos (dot_scale hb hv hw) (ev_pos (by trivial) (ev_pos (by trivial) (ev_pos (by trivial) (ev_pos (by trivial) (ev_pos (by trivial) (ev_now ?_)))))))))))
      rw [xor_u8 (dotV_byte hv) (dotV_byte hw), dot_sum hv hw hl]
      simp

end Go.Proofs.Ytelkciakdhiicaa.Pure
