/- The given program's EncodeMsr returns what the reference's EncodeMsr returns, for all codes and data, leaves the data as they were, and what it returns is its own; there is no condition. -/
import Derived.Test.YteflgifmdojahaaPFnExactEncodeMsrx
import Derived.Test.YteflgifmdojahaaWalkFnExactEncodeMsr
import Derived.Test.YteflgifmdojahaaKit
import Derived.Test.YteflgifmdojahaaTxt
namespace Go.Proofs.Yteflgifmdojahaa.Pure
open Go.RowKit Go.Proofs.Yteflgifmdojahaa.PFnExactEncodeMsr Go.Proofs.YteflgifmdojahaaW.PrintWords Go.Proofs.YteflgifmdojahaaW.PrintLast Go.Proofs.Yteflgifmdojahaa.Gf Go.Proofs.Yteflgifmdojahaa.Kit Go.Proofs.Yteflgifmdojahaa.KitW
open Go.Proofs.Yteflgifmdojahaa.KitN hiding idM_length
set_option linter.unusedVariables false
set_option linter.unusedSimpArgs false

theorem rdSS (l : List (List Int)) (i : Nat) (h : i < l.length) : rd_L1 l (i : Int) = l[i] := by unfold rd_L1; simp [List.getD, h]
theorem rdSS0 (l : List (List Int)) (i : Int) : rd_L1 l i = l.getD i.toNat [] := rfl
theorem laws_toMsr.ev (n k : Int) : laws_toMsr.f n k = some (n, k) := rfl

theorem laws_toByteS.ev_l0 (l : List Int) (hl : l.length < 4611686018427387904) : ∀ (n i : Nat) (o : List Int), i + n = l.length → o.length = l.length → o.take i = l.take i →
    Ev (fun k => laws_toByteS.l0 k l o (i : Int)) l
  | 0, i, o, hi, ho, ht => by
    refine Ev.step (fun k => laws_toByteS.l0.eq_2 _ _ _ k) ?_
    refine ev_neg (by omega) (ev_now ?_)
    rw [List.take_of_length_le (by omega), List.take_of_length_le (by omega)] at ht
    exact ht
  | n + 1, i, o, hi, ho, ht => by
    refine Ev.step (fun k => laws_toByteS.l0.eq_2 _ _ _ k) ?_
    refine ev_pos (by omega) (ev_pos (by omega) (ev_pos (by omega) ?_))
    rw [inc (by omega), Int.toNat_natCast]
    refine laws_toByteS.ev_l0 l hl n (i + 1) _ (by omega) (by simpa using ho) ?_
    rw [take_set_succ _ _ _ (by omega), ht, List.take_succ_eq_append_getElem (by omega), rd_get (by omega)]
theorem laws_toByteS.ev (l : List Int) (hl : l.length ≤ 281474976710656) : Ev (fun k => laws_toByteS.f k l) l := by
  unfold laws_toByteS.f
  refine ev_pos (by omega) (ev_pos (by omega) ?_)
  exact laws_toByteS.ev_l0 l (by omega) l.length 0 _ (by omega) (by simp) rfl

theorem laws_eqByteS.ev_l0 (l : List Int) (hl : l.length < 4611686018427387904) : ∀ (n i : Nat), i + n = l.length → Ev (fun k => laws_eqByteS.l0 k l l (i : Int)) true
  | 0, i, hi => by
    refine Ev.step (fun k => laws_eqByteS.l0.eq_2 _ _ _ k) ?_
    exact ev_neg (by omega) (ev_now rfl)
  | n + 1, i, hi => by
    refine Ev.step (fun k => laws_eqByteS.l0.eq_2 _ _ _ k) ?_
    refine ev_pos (by omega) (ev_pos (by omega) (ev_pos (by omega) (ev_pos rfl ?_)))
    rw [inc (by omega)]
    exact laws_eqByteS.ev_l0 l hl n (i + 1) (by omega)
theorem laws_eqByteS.ev (l : List Int) (hl : l.length ≤ 281474976710656) : Ev (fun k => laws_eqByteS.f k l l) true := by
  unfold laws_eqByteS.f
  exact ev_pos rfl (laws_eqByteS.ev_l0 l (by omega) l.length 0 (by omega))

theorem laws_markByteS.ev_l0 (a : Int) (m : Nat) (ha : 0 ≤ a) (hm : a + m < 4611686018427387904) : ∀ (n i : Nat) (o : List Int), i + n = m → o.length = m → o.take i = (markB a m).take i →
    Ev (fun k => laws_markByteS.l0 k o (a + (i : Nat)) (i : Int)) (a + (m : Nat), markB a m)
  | 0, i, o, hi, ho, ht => by
    refine Ev.step (fun k => laws_markByteS.l0.eq_2 _ _ _ k) ?_
    refine ev_neg (by omega) (ev_now ?_)
    have hb := markB_length a m
    rw [List.take_of_length_le (by omega), List.take_of_length_le (by omega)] at ht
    subst ht
    have : i = m := by omega
    rw [this]
  | n + 1, i, o, hi, ho, ht => by
    refine Ev.step (fun k => laws_markByteS.l0.eq_2 _ _ _ k) ?_
    refine ev_pos (by omega) (ev_pos (by omega) ?_)
    have e : wrap64 (a + (i : Nat) + 1) = a + ((i + 1 : Nat) : Int) := by unfold wrap64; omega
    rw [inc (by omega), e, Int.toNat_natCast]
    refine laws_markByteS.ev_l0 a m ha hm n (i + 1) _ (by omega) (by simpa using ho) ?_
    have hb := markB_length a m
    rw [take_set_succ _ _ _ (by omega), ht, List.take_succ_eq_append_getElem (by omega), markB_get]
theorem laws_markByteS.ev (l : List Int) (a : Int) (ha : 0 ≤ a) (hm : a + l.length < 4611686018427387904) : Ev (fun k => laws_markByteS.f k l a) (a + (l.length : Nat), markB a l.length) := by
  unfold laws_markByteS.f
  have := laws_markByteS.ev_l0 a l.length ha hm l.length 0 l (by omega) rfl rfl
  simpa using this

theorem spec_l1In.ev (a b c : Int) : spec_l1In.f a b c = some (decide (b ≤ a ∧ a ≤ c)) := by
  unfold spec_l1In.f
  by_cases h : a ≥ b
  · rw [if_pos h]; simp [h]
  · rw [if_neg h]; simp; omega

theorem spec_GoodMsr.ev (n k : Int) : spec_GoodMsr.f n k = some (decide (GoodMsr n k)) := by
  unfold spec_GoodMsr.f
  simp only [spec_l1In.ev, Option.bind_some, decide_eq_true_eq]
  by_cases h : 2 ≤ k ∧ k ≤ 4
  · have e : wrap64 (wrap64 (2 * k) - 1) = 2 * k - 1 := by unfold wrap64; omega
    simp [h, e]
  · simp [h]

theorem spec_l2Blank.ev_l0 (n m : Nat) (hn : n ≤ 1048576) (hm : m ≤ 1048576) : ∀ (d i : Nat), i + d = n → Ev (fun k => spec_l2Blank.l0 k (n : Int) (m : Int) (i : Int) (blankM i m)) (blankM n m)
  | 0, i, hi => by
    obtain rfl : i = n := by omega
    refine Ev.step (fun k => spec_l2Blank.l0.eq_2 _ _ _ _ k) ?_
    exact ev_neg (by omega) (ev_now rfl)
  | d + 1, i, hi => by
    have ih := spec_l2Blank.ev_l0 n m hn hm d (i + 1) (by omega)
    refine Ev.step (fun k => spec_l2Blank.l0.eq_2 _ _ _ _ k) ?_
    refine ev_pos (by omega) (ev_pos (by omega) (ev_pos (by omega) (ev_pos (by simp [blankM]; omega) ?_)))
    rw [inc (by omega), Int.toNat_natCast]
    have e : blankM i m ++ [List.replicate m 0] = blankM (i + 1) m := by
      unfold blankM; rw [List.replicate_succ']
    rw [e]
    exact ih
theorem spec_l2Blank.ev (n m : Nat) (hn : n ≤ 1048576) (hm : m ≤ 1048576) : Ev (fun k => spec_l2Blank.f k (n : Int) (m : Int)) (blankM n m) := by
  unfold spec_l2Blank.f
  exact spec_l2Blank.ev_l0 n m hn hm n 0 (by omega)

/-- Where a byte of data stands in the message's matrix. -/
def plc (a r j : Nat) : Nat := (r / a) * (a * (a + 1) / 2) + (min (r % a) j * a - min (r % a) j * (min (r % a) j - 1) / 2 + (max (r % a) j - min (r % a) j))
theorem plc_lt {a : Nat} (h1 : 1 ≤ a) (h3 : a ≤ 3) {r j : Nat} (hr : r < 2 * a) (hj : j < a) : plc a r j < a * (a + 1) := by
  have h : a = 1 ∨ a = 2 ∨ a = 3 := by omega
  have key : (∀ r, r < 2 → ∀ j, j < 1 → plc 1 r j < 2) ∧ (∀ r, r < 4 → ∀ j, j < 2 → plc 2 r j < 6) ∧ (∀ r, r < 6 → ∀ j, j < 3 → plc 3 r j < 12) := by decide
  rcases h with rfl | rfl | rfl
  · exact key.1 r hr j hj
  · exact key.2.1 r hr j hj
  · exact key.2.2 r hr j hj
/-- The message's matrix. -/
def msgM (a : Nat) (D : List Int) : List (List Int) := tab (2 * a) a fun r j => D.getD (plc a r j) 0
theorem msg_list (f : Nat → Int) : (List.range 2).map f = [f 0, f 1] ∧ (List.range 6).map f = [f 0, f 1, f 2, f 3, f 4, f 5] ∧ (List.range 12).map f = [f 0, f 1, f 2, f 3, f 4, f 5, f 6, f 7, f 8, f 9, f 10, f 11] := ⟨rfl, rfl, rfl⟩
theorem spec_l5Message.ev (n : Int) {a : Nat} (ha1 : 1 ≤ a) (ha3 : a ≤ 3) {D : List Int} (hl : D.length = a * (a + 1)) : Ev (fun k => spec_l5Message.f k n ((a + 1 : Nat) : Int) D) (msgM a D) := by
  unfold spec_l5Message.f
  have e1 : wrap64 (((a + 1 : Nat) : Int) - 1) = (a : Int) := by unfold wrap64; omega
  have e2 : wrap64 (2 * (a : Int)) = ((2 * a : Nat) : Int) := by unfold wrap64; omega
  rw [e1, e2]
  refine ev_bind (spec_l2Blank.ev (2 * a) a (by omega) (by omega)) ?_
  refine Ev.of (k := 60) (fun k => (spec_l5Message.mono_l k).1 _ _ _ _ _) ?_
  have hD := row_self hl
  generalize D.getD = g at hD
  have h : a = 1 ∨ a = 2 ∨ a = 3 := by omega
  unfold msgM
  rcases h with rfl | rfl | rfl
  · rw [hD]
    generalize (fun j => g j 0) = f
    rw [show (1 * (1 + 1)) = 2 from rfl, (msg_list f).1]
    show _ = _; kernel_rfl
  · rw [hD]
    generalize (fun j => g j 0) = f
    rw [show (2 * (2 + 1)) = 6 from rfl, (msg_list f).2.1]
    show _ = _; kernel_rfl
  · rw [hD]
    generalize (fun j => g j 0) = f
    rw [show (3 * (3 + 1)) = 12 from rfl, (msg_list f).2.2]
    show _ = _; kernel_rfl

theorem spec_l1Times.ev_l0 : ∀ (n o x y : Nat), y < 2 ^ n → n ≤ 8 → o < 256 → x < 256 →
    Ev (fun k => spec_l1Times.l0 k (o : Int) (x : Int) (y : Int)) ((T n o x y : Nat) : Int)
  | 0, o, x, y, hy, _, ho, hx => by
    refine Ev.step (fun k => spec_l1Times.l0.eq_2 _ _ _ k) ?_
    have : y = 0 := by simpa using hy
    subst this
    refine ev_neg (by decide) (ev_now ?_)
    simp only [T]
    omega
  | n + 1, o, x, y, hy, hn, ho, hx => by
    have hy8 : y < 256 := Nat.lt_of_lt_of_le hy (Nat.pow_le_pow_right (n := 2) (by decide) hn)
    by_cases h0 : y = 0
    · subst h0
      refine Ev.step (fun k => spec_l1Times.l0.eq_2 _ _ _ k) ?_
      refine ev_neg (by decide) (ev_now ?_)
      rw [T_zero]
      omega
    refine Ev.step (fun k => spec_l1Times.l0.eq_2 _ _ _ k) ?_
    refine ev_pos (by omega) ?_
    have e2 : wrap64 ((x : Int) * 2) = ((2 * x : Nat) : Int) := by rw [wrap_id (by omega) (by omega)]; omega
    have e3 : ((y : Int) / 2) = ((y / 2 : Nat) : Int) := by omega
    have e4 : Go.bits .xor .i64 (o : Int) (x : Int) = ((o ^^^ x : Nat) : Int) := xor_i64 (by omega) (by omega)
    have e5 : Go.bits .xor .i64 ((2 * x : Nat) : Int) 283 = ((2 * x ^^^ 283 : Nat) : Int) := xor_i64 (m := 2 * x) (n := 283) (by omega) (by omega)
    rw [and1_i64 (by omega), e2, e3, e4, e5]
    have hT : T (n + 1) o x y = T n (if y % 2 = 1 then o ^^^ x else o) (xt x) (y / 2) := by rw [T]
    rw [hT]
    have hxt := xt_lt hx
    have hox := xor_lt ho hx
    have hh : y / 2 < 2 ^ n := by rw [Nat.pow_succ] at hy; omega
    by_cases h1 : y % 2 = 1
    · rw [if_pos h1]
      refine ev_pos (by omega) ?_
      by_cases h2 : 2 * x > 255
      · refine ev_pos (by omega) ?_
        have : xt x = 2 * x ^^^ 283 := by unfold xt; rw [if_pos h2]
        rw [this] at hxt ⊢
        exact spec_l1Times.ev_l0 n _ _ _ hh (by omega) hox hxt
      · refine ev_neg (by omega) ?_
        have : xt x = 2 * x := by unfold xt; rw [if_neg h2]
        rw [this] at hxt ⊢
        exact spec_l1Times.ev_l0 n _ _ _ hh (by omega) hox hxt
    · rw [if_neg h1]
      refine ev_neg (by omega) ?_
      by_cases h2 : 2 * x > 255
      · refine ev_pos (by omega) ?_
        have : xt x = 2 * x ^^^ 283 := by unfold xt; rw [if_pos h2]
        rw [this] at hxt ⊢
        exact spec_l1Times.ev_l0 n _ _ _ hh (by omega) ho hxt
      · refine ev_neg (by omega) ?_
        have : xt x = 2 * x := by unfold xt; rw [if_neg h2]
        rw [this] at hxt ⊢
        exact spec_l1Times.ev_l0 n _ _ _ hh (by omega) ho hxt
theorem spec_l1Times.ev {a b : Int} (ha : Byte a) (hb : Byte b) : Ev (fun k => spec_l1Times.f k a b) (mul a b) := by
  obtain ⟨m, hm, rfl⟩ := ha.nat
  obtain ⟨n, hn, rfl⟩ := hb.nat
  unfold spec_l1Times.f
  rw [wrap_id (i := (m : Int)) (by omega) (by omega), wrap_id (i := (n : Int)) (by omega) (by omega)]
  have h := spec_l1Times.ev_l0 8 0 m n hn (Nat.le_refl _) (by decide) hm
  exact ev_eq h (by unfold Gf.mul gm; simp)

theorem spec_l1Dot.ev_l0 (v w : List Int) (hv : Bytes v) (hw : Bytes w) (hl : v.length = w.length) (hs : v.length < 140737488355328) : ∀ (n i : Nat) (o : Int), i + n = v.length → Byte o →
    Ev (fun k => spec_l1Dot.l0 k v w o (v.length : Int) (i : Int)) (gx o (dotV (v.drop i) (w.drop i)))
  | 0, i, o, hi, ho => by
    refine Ev.step (fun k => spec_l1Dot.l0.eq_2 _ _ _ _ _ k) ?_
    refine ev_neg (by omega) (ev_now ?_)
    rw [List.drop_of_length_le (by omega)]
    exact (gx_zero ho).symm
  | n + 1, i, o, hi, ho => by
    refine Ev.step (fun k => spec_l1Dot.l0.eq_2 _ _ _ _ _ k) ?_
    refine ev_pos (by omega) (ev_pos (by omega) (ev_pos (by omega) (ev_pos (by omega) ?_)))
    have bv : Byte (rd v (i : Int)) := bytes_rd hv (by omega)
    have bw : Byte (rd w (i : Int)) := bytes_rd hw (by omega)
    refine ev_bind (spec_l1Times.ev bv bw) ?_
    have bm := Byte.mul bv (rd w (i : Int))
    have bg := Byte.gx ho bm
    rw [inc (by omega), xor_u8 ho bm]
    refine ev_eq (spec_l1Dot.ev_l0 v w hv hw hl hs n (i + 1) _ (by omega) bg) ?_
    rw [drop_cons (l := v) (i := i) (by omega), drop_cons (l := w) (i := i) (by omega), rd_get (by omega), rd_get (by omega), dotV, gx_assoc]
theorem spec_l1Dot.ev {v w : List Int} (hv : Bytes v) (hw : Bytes w) (hl : v.length = w.length) (hs : v.length < 140737488355328) : Ev (fun k => spec_l1Dot.f k v w) (dotV v w) := by
  unfold spec_l1Dot.f
  refine ev_eq (spec_l1Dot.ev_l0 v w hv hw hl hs v.length 0 0 (by omega) .zero) ?_
  exact zero_gx (dotV_byte hv)

def applyM (m : List (List Int)) (v : List Int) : List Int := m.map fun r => dotV r v
theorem applyM_length (m : List (List Int)) (v : List Int) : (applyM m v).length = m.length := by simp [applyM]
theorem applyM_bytes {m : List (List Int)} (h : matBytes m) (v : List Int) : Bytes (applyM m v) := by
  intro x hx
  simp only [applyM, List.mem_map] at hx
  obtain ⟨r, hr, rfl⟩ := hx
  exact dotV_byte (h r hr)
theorem spec_l2Apply.ev_l0 (m : List (List Int)) (v : List Int) (hv : Bytes v) (hn : v.length ≤ 1048576) (hr : ∀ r ∈ m, Bytes r ∧ r.length = v.length) (hl : m.length ≤ 1048576) : ∀ (d i : Nat) (o : List Int), i + d = m.length → o = (applyM m v).take i →
    Ev (fun k => spec_l2Apply.l0 k v o m (m.length : Int) (i : Int)) (applyM m v)
  | 0, i, o, hi, ho => by
    refine Ev.step (fun k => spec_l2Apply.l0.eq_2 _ _ _ _ _ k) ?_
    refine ev_neg (by omega) (ev_now ?_)
    rw [ho, List.take_of_length_le (by rw [applyM_length]; omega)]
  | d + 1, i, o, hi, ho => by
    have hlen : o.length = i := by rw [ho, List.length_take, applyM_length]; omega
    have hri := hr _ (List.getElem_mem (show i < m.length by omega))
    refine Ev.step (fun k => spec_l2Apply.l0.eq_2 _ _ _ _ _ k) ?_
    refine ev_pos (by omega) (ev_pos (by omega) (ev_pos (by omega) ?_))
    rw [rdSS _ i (by omega)]
    refine ev_bind (spec_l1Dot.ev hri.1 hv hri.2 (by omega)) (ev_pos (by omega) ?_)
    rw [inc (by omega)]
    refine spec_l2Apply.ev_l0 m v hv hn hr hl d (i + 1) _ (by omega) ?_
    rw [List.take_succ_eq_append_getElem (by rw [applyM_length]; omega), ← ho]
    simp [applyM]
theorem spec_l2Apply.ev {m : List (List Int)} {v : List Int} (hv : Bytes v) (hn : v.length ≤ 1048576) (hr : ∀ r ∈ m, Bytes r ∧ r.length = v.length) (hl : m.length ≤ 1048576) : Ev (fun k => spec_l2Apply.f k m v) (applyM m v) := by
  unfold spec_l2Apply.f
  exact spec_l2Apply.ev_l0 m v hv hn hr hl m.length 0 [] (by omega) rfl

theorem spec_l1Scale.ev_l0 (a : Int) (ha : Byte a) (v : List Int) (hv : Bytes v) (hs : v.length < 140737488355328) : ∀ (n i : Nat) (o : List Int), i + n = v.length → o = (scale a v).take i →
    Ev (fun k => spec_l1Scale.l0 k a o v (v.length : Int) (i : Int)) (scale a v)
  | 0, i, o, hi, ho => by
    refine Ev.step (fun k => spec_l1Scale.l0.eq_2 _ _ _ _ _ k) ?_
    refine ev_neg (by omega) (ev_now ?_)
    subst ho
    rw [List.take_of_length_le (by rw [scale_length]; omega)]
  | n + 1, i, o, hi, ho => by
    have hz := scale_length a v
    have hlen : o.length = i := by rw [ho, List.length_take, hz]; omega
    refine Ev.step (fun k => spec_l1Scale.l0.eq_2 _ _ _ _ _ k) ?_
    refine ev_pos (by omega) (ev_pos (by omega) (ev_pos (by omega) ?_))
    refine ev_bind (spec_l1Times.ev ha (bytes_rd hv (by omega))) ?_
    refine ev_pos (by omega) ?_
    rw [inc (by omega), rd_get (by omega)]
    refine spec_l1Scale.ev_l0 a ha v hv hs n (i + 1) _ (by omega) ?_
    rw [List.take_succ_eq_append_getElem (by omega), ← ho]
    simp [scale]
theorem spec_l1Scale.ev {a : Int} (ha : Byte a) {v : List Int} (hv : Bytes v) (hs : v.length < 140737488355328) : Ev (fun k => spec_l1Scale.f k a v) (scale a v) := by
  unfold spec_l1Scale.f
  exact spec_l1Scale.ev_l0 a ha v hv hs v.length 0 [] (by omega) rfl

theorem spec_l1Power.ev_l0 (a : Int) (ha : Byte a) : ∀ (n m : Nat), n < 4611686018427387904 → Ev (fun k => spec_l1Power.l0 k a (n : Int) (pow a m)) (pow a (m + n))
  | 0, m, _ => by
    refine Ev.step (fun k => spec_l1Power.l0.eq_2 _ _ _ k) ?_
    exact ev_neg (by omega) (ev_now rfl)
  | n + 1, m, hn => by
    refine Ev.step (fun k => spec_l1Power.l0.eq_2 _ _ _ k) ?_
    refine ev_pos (by omega) ?_
    refine ev_bind (spec_l1Times.ev (Byte.pow ha m) ha) ?_
    have e : wrap64 (((n + 1 : Nat) : Int) - 1) = (n : Int) := by unfold wrap64; omega
    rw [e, ← pow_succ]
    refine ev_eq (spec_l1Power.ev_l0 a ha n (m + 1) (by omega)) ?_
    rw [Nat.add_right_comm, Nat.add_assoc]
theorem spec_l1Power.ev {a : Int} (ha : Byte a) (n : Nat) (hn : n < 4611686018427387904) : Ev (fun k => spec_l1Power.f k a (n : Int)) (pow a n) := by
  unfold spec_l1Power.f
  have := spec_l1Power.ev_l0 a ha n 0 hn
  rw [pow_zero, Nat.zero_add] at this
  exact this

theorem spec_l5X.ev (j : Nat) (hj : j < 4294967296) : Ev (fun k => spec_l5X.f k (j : Int)) (nodeX j) := by
  unfold spec_l5X.f
  rw [inc (by omega)]
  exact ev_bind (spec_l1Power.ev byte3 (j + 1) (by omega)) (ev_now rfl)

theorem spec_l5F.ev (n : Int) (a j : Nat) (ha : a ≤ 3) (hj : j < 4294967296) : Ev (fun k => spec_l5F.f k n ((a + 1 : Nat) : Int) (j : Int)) (pow (nodeX j) a) := by
  unfold spec_l5F.f
  have e : wrap64 (((a + 1 : Nat) : Int) - 1) = (a : Int) := by unfold wrap64; omega
  rw [e]
  exact ev_bind (spec_l5X.ev j hj) (ev_bind (spec_l1Power.ev (nodeX_byte j) a (by omega)) (ev_now rfl))

theorem spec_l5Short.ev_l0 (n : Int) (a j : Nat) (ha : a ≤ 3) (hj : j < 4294967296) : ∀ (d i : Nat) (o : List Int), i + d = a → o = (shortR a j).take i →
    Ev (fun k => spec_l5Short.l0 k (j : Int) o (i : Int) n ((a + 1 : Nat) : Int)) (shortR a j)
  | 0, i, o, hi, ho => by
    have e : wrap64 (((a + 1 : Nat) : Int) - 1) = (a : Int) := by unfold wrap64; omega
    refine Ev.step (fun k => spec_l5Short.l0.eq_2 _ _ _ _ _ k) ?_
    rw [e]
    refine ev_neg (by omega) (ev_now ?_)
    rw [ho, List.take_of_length_le (by rw [shortR_length]; omega)]
  | d + 1, i, o, hi, ho => by
    have e : wrap64 (((a + 1 : Nat) : Int) - 1) = (a : Int) := by unfold wrap64; omega
    have hl : o.length ≤ 3 := by rw [ho, List.length_take, shortR_length]; omega
    refine Ev.step (fun k => spec_l5Short.l0.eq_2 _ _ _ _ _ k) ?_
    rw [e]
    refine ev_pos (by omega) ?_
    refine ev_bind (spec_l5X.ev j hj) (ev_bind (spec_l1Power.ev (nodeX_byte j) i (by omega)) (ev_pos (by omega) ?_))
    rw [inc (by omega)]
    exact spec_l5Short.ev_l0 n a j ha hj d (i + 1) _ (by omega) (by rw [shortR_succ a j i (by omega), ← ho])
theorem spec_l5Short.ev (n : Int) (a j : Nat) (ha : a ≤ 3) (hj : j < 4294967296) : Ev (fun k => spec_l5Short.f k n ((a + 1 : Nat) : Int) (j : Int)) (shortR a j) := by
  unfold spec_l5Short.f
  exact spec_l5Short.ev_l0 n a j ha hj a 0 [] (by omega) rfl

theorem spec_l5Row.ev (n : Int) (a j : Nat) (ha : a ≤ 3) (hj : j < 4294967296) : Ev (fun k => spec_l5Row.f k n ((a + 1 : Nat) : Int) (j : Int)) (msrRow a j) := by
  unfold spec_l5Row.f
  have hl := shortR_length a j
  have hs := scale_length (pow (nodeX j) a) (shortR a j)
  refine ev_bind (spec_l5Short.ev n a j ha hj) ?_
  simp only [Option.bind_some, List.nil_append, List.length_nil]
  refine ev_pos (by omega) ?_
  refine ev_bind (spec_l5F.ev n a j ha hj) (ev_bind (spec_l1Scale.ev (Byte.pow (nodeX_byte j) a) (shortR_bytes a j) (by omega)) (ev_pos (by omega) (ev_now rfl)))

def trPart (l : List (List Int)) (i j : Nat) : List (List Int) := tab (l.getD 0 []).length l.length fun a b => if b < i ∨ b = i ∧ a < j then (l.getD b []).getD a 0 else 0
theorem trPart_next (l : List (List Int)) (i : Nat) : trPart l i (l.getD 0 []).length = trPart l (i + 1) 0 := by
  apply tab_congr
  intro a ha b hb
  by_cases h : b < i ∨ b = i ∧ a < (l.getD 0 []).length
  · rw [if_pos h, if_pos (by omega)]
  · rw [if_neg h, if_neg (by omega)]
theorem spec_l2Transposed.ev_l1 (l : List (List Int)) (hg : goodM l = true) (i : Nat) (hi : i < l.length) {R : List (List Int)}
    (K : Ev (fun k => spec_l2Transposed.l0 k l (l.length : Int) ((i + 1 : Nat) : Int) (trPart l (i + 1) 0)) R) : ∀ (d j : Nat), j + d = (l.getD 0 []).length →
    Ev (fun k => spec_l2Transposed.l1 k (i : Int) l (l.length : Int) (i : Int) (l.getD i []) ((l.getD i []).length : Int) (j : Int) (trPart l i j)) R
  | 0, j, hj => by
    have hf := goodM_iff hg
    refine Ev.step (fun k => spec_l2Transposed.l1.eq_2 _ _ _ _ _ _ _ _ k) ?_
    have e := hf.2.2 i hi
    refine ev_neg (by omega) ?_
    rw [inc (by omega), show j = (l.getD 0 []).length by omega, trPart_next]
    exact K
  | d + 1, j, hj => by
    have hf := goodM_iff hg
    have e := hf.2.2 i hi
    have hlen : (trPart l i j).length = (l.getD 0 []).length := tab_length _ _ _
    have hrow : ((trPart l i j).getD j []).length = l.length := tab_getD_length (by omega)
    refine Ev.step (fun k => spec_l2Transposed.l1.eq_2 _ _ _ _ _ _ _ _ k) ?_
    simp only [rdSS0, Int.toNat_natCast]
    refine ev_pos (by omega) (ev_pos (by omega) (ev_pos (by omega) (ev_pos (by omega) (ev_pos (by omega) (ev_pos (by omega) ?_)))))
    rw [inc (by omega)]
    have hs : (trPart l i j).set j (((trPart l i j).getD j []).set i (rd (l.getD i []) (j : Int))) = trPart l i (j + 1) := by
      unfold trPart
      rw [tab_set (by omega)]
      apply tab_congr
      intro a ha b hb
      by_cases h : a = j ∧ b = i
      · obtain ⟨rfl, rfl⟩ := h
        rw [if_pos ⟨rfl, rfl⟩, if_pos (by omega), rd_nat]
      · rw [if_neg h]
        by_cases h2 : b < i ∨ b = i ∧ a < j
        · rw [if_pos h2, if_pos (by omega)]
        · rw [if_neg h2, if_neg (by omega)]
    rw [hs]
    exact spec_l2Transposed.ev_l1 l hg i hi K d (j + 1) (by omega)
theorem spec_l2Transposed.ev_l0 (l : List (List Int)) (hg : goodM l = true) : ∀ (d i : Nat), i + d = l.length → Ev (fun k => spec_l2Transposed.l0 k l (l.length : Int) (i : Int) (trPart l i 0)) (trM l)
  | 0, i, hi => by
    refine Ev.step (fun k => spec_l2Transposed.l0.eq_2 _ _ _ _ k) ?_
    refine ev_neg (by omega) (ev_now ?_)
    apply tab_congr
    intro a ha b hb
    rw [if_pos (by omega)]
  | d + 1, i, hi => by
    have ih := spec_l2Transposed.ev_l0 l hg d (i + 1) (by omega)
    have hf := goodM_iff hg
    refine Ev.step (fun k => spec_l2Transposed.l0.eq_2 _ _ _ _ k) ?_
    refine ev_pos (by omega) (ev_pos (by omega) (ev_pos (by omega) ?_))
    simp only [rdSS0, Int.toNat_natCast]
    exact spec_l2Transposed.ev_l1 l hg i (by omega) ih (l.getD 0 []).length 0 (by omega)
theorem spec_l2Transposed.ev (l : List (List Int)) (hg : goodM l = true) : Ev (fun k => spec_l2Transposed.f k l) (trM l) := by
  have hf := goodM_iff hg
  unfold spec_l2Transposed.f
  refine ev_pos (by omega) ?_
  simp only [rdSS0, Int.toNat_zero]
  refine ev_bind (spec_l2Blank.ev _ _ (by omega) (by omega)) ?_
  have e : blankM (l.getD 0 []).length l.length = trPart l 0 0 := by
    rw [tab_blank]
    apply tab_congr
    intro a ha b hb
    rw [if_neg (by omega)]
  rw [e]
  exact spec_l2Transposed.ev_l0 l hg l.length 0 (by omega)

theorem goodM_same {M : List (List Int)} {n : Nat} (hM : ∀ r ∈ M, r.length = n) (h1 : 1 ≤ M.length) (h2 : M.length ≤ 16) (h3 : 1 ≤ n) (h4 : n ≤ 16) : goodM M = true := by
  have e : ∀ i, i < M.length → (M.getD i []).length = n := fun i hi => by
    rw [List.getD_eq_getElem?_getD, List.getElem?_eq_getElem hi]
    exact hM _ (List.getElem_mem hi)
  have e0 := e 0 (by omega)
  unfold goodM
  rw [e0]
  have : ((List.range M.length).any fun i => (M.getD i []).length != n) = false := by
    rw [List.any_eq_false]
    intro i hi
    rw [e i (List.mem_range.1 hi)]
    simp
  rw [this]
  simp [h1, h2, h3, h4]
theorem tab_mem {n m : Nat} {f : Nat → Nat → Int} : ∀ r ∈ tab n m f, r.length = m := fun r hr => by
  simp only [tab, List.mem_map] at hr
  obtain ⟨i, _, rfl⟩ := hr
  simp
theorem dotV_swap : ∀ (v w : List Int), Bytes v → Bytes w → dotV v w = dotV w v
  | [], [], _, _ => rfl
  | [], _ :: _, _, _ => rfl
  | _ :: _, [], _, _ => rfl
  | x :: v, y :: w, hv, hw => by
    show gx (mul x y) (dotV v w) = gx (mul y x) (dotV w v)
    rw [mul_comm (hv x (by simp)) (hw y (by simp)), dotV_swap v w (fun z hz => hv z (by simp [hz])) (fun z hz => hw z (by simp [hz]))]
theorem trM_bytes {M : List (List Int)} (h : matBytes M) : matBytes (trM M) := tab_bytes fun _ _ _ _ => matBytes_get h _ _
theorem row_product {M : List (List Int)} {v : List Int} (hM : matBytes M) (hv : Bytes v) (hl : v.length = M.length) : (prodM [v] M).getD 0 [] = applyM (trM M) v := by
  have hb : matBytes [v] := fun r hr => by rw [List.mem_singleton.1 hr]; exact hv
  unfold prodM
  rw [tab_getD (show 0 < [v].length by simp)]
  unfold applyM trM tab
  rw [List.map_map]
  apply List.map_congr_left
  intro j hj
  have e := prodM_dot (a := [v]) (b := M) hb (i := 0) (j := j) hl
  rw [← e]
  show dotV v _ = dotV _ v
  refine dotV_swap _ _ hv (fun z hz => ?_)
  simp only [List.mem_map] at hz
  obtain ⟨i, _, rfl⟩ := hz
  exact matBytes_get hM _ _
abbrev Pc := S76
def pieceAt (a : Nat) (D : List Int) (i : Nat) : Pc := ⟨(i : Int), applyM (trM (msgM a D)) (msrRow a i)⟩
def encL (m a : Nat) (D : List Int) : List Pc := (List.range m).map (pieceAt a D)
theorem encL_length (m a : Nat) (D : List Int) : (encL m a D).length = m := by simp [encL]
theorem encL_succ (m a : Nat) (D : List Int) (i : Nat) (h : i < m) : (encL m a D).take (i + 1) = (encL m a D).take i ++ [pieceAt a D i] := by
  rw [List.take_succ_eq_append_getElem (by rw [encL_length]; exact h)]
  simp [encL]
theorem msgM_bytes (a : Nat) {D : List Int} (h : Bytes D) : matBytes (msgM a D) := tab_bytes fun _ _ _ _ => bytes_getD h _
theorem msgM_good {a : Nat} (h1 : 1 ≤ a) (h3 : a ≤ 3) (D : List Int) : goodM (msgM a D) = true := goodM_same (n := a) tab_mem (by unfold msgM; rw [tab_length]; omega) (by unfold msgM; rw [tab_length]; omega) h1 (by omega)
theorem msgM_length (a : Nat) (D : List Int) : (msgM a D).length = 2 * a := tab_length _ _ _
theorem msgM_first {a : Nat} (h1 : 1 ≤ a) (D : List Int) : ((msgM a D).getD 0 []).length = a := tab_getD_length (by omega)
theorem trM_msg {a : Nat} (h1 : 1 ≤ a) (D : List Int) : (trM (msgM a D)).length = a ∧ ∀ r ∈ trM (msgM a D), r.length = 2 * a := by
  unfold trM
  rw [msgM_first h1, msgM_length]
  exact ⟨tab_length _ _ _, tab_mem⟩
theorem pieceAt_length {a : Nat} (h1 : 1 ≤ a) (D : List Int) (i : Nat) : (pieceAt a D i).f1.length = a := (applyM_length _ _).trans (trM_msg h1 D).1
theorem spec_l5Encode.ev_l0 {a m : Nat} (h1 : 1 ≤ a) (h3 : a ≤ 3) (hm : m ≤ 14) {D : List Int} (hb : Bytes D) : ∀ (d i : Nat), i + d = m → Ev (fun k => spec_l5Encode.l0 k ((encL m a D).take i) (i : Int) (m : Int) ((a + 1 : Nat) : Int) (trM (msgM a D))) (encL m a D)
  | 0, i, hi => by
    have hz := encL_length m a D
    refine Ev.step (fun k => spec_l5Encode.l0.eq_2 _ _ _ _ _ k) ?_
    refine ev_neg (by omega) (ev_now ?_)
    rw [List.take_of_length_le (by omega)]
  | d + 1, i, hi => by
    have hz := encL_length m a D
    have ht := trM_msg h1 D
    have hr := msrRow_length a i
    have htb := trM_bytes (msgM_bytes a hb)
    refine Ev.step (fun k => spec_l5Encode.l0.eq_2 _ _ _ _ _ k) ?_
    refine ev_pos (by omega) (ev_bind (spec_l5Row.ev _ a i h3 (by omega)) (ev_bind (spec_l2Apply.ev (msrRow_bytes a i) (by omega) (fun r hr2 => ⟨htb r hr2, (ht.2 r hr2).trans hr.symm⟩) (by omega)) (ev_pos (by rw [List.length_take]; omega) ?_)))
    rw [show (⟨(i : Int), applyM (trM (msgM a D)) (msrRow a i)⟩ : Pc) = pieceAt a D i from rfl, ← encL_succ m a D i (by omega), inc (by omega)]
    exact spec_l5Encode.ev_l0 h1 h3 hm hb d (i + 1) (by omega)
theorem spec_l5Encode.ev {a m : Nat} (h1 : 1 ≤ a) (h3 : a ≤ 3) (hm : m ≤ 14) {D : List Int} (hb : Bytes D) (hl : D.length = a * (a + 1)) : Ev (fun k => spec_l5Encode.f k (m : Int) ((a + 1 : Nat) : Int) D) (encL m a D) := by
  unfold spec_l5Encode.f
  exact ev_bind (spec_l5Message.ev _ h1 h3 hl) (ev_bind (spec_l2Transposed.ev _ (msgM_good h1 h3 D)) (spec_l5Encode.ev_l0 h1 h3 hm hb m 0 (by omega)))

def encVal (n k : Int) (D : List Int) : List Pc × Bool := if GoodMsr n k ∧ (D.length : Int) = k * (k - 1) then (encL n.toNat (k.toNat - 1) D, true) else ([], false)
theorem enc_wrap {n k : Int} (h : GoodMsr n k) : wrap64 (k * (k - 1)) = k * (k - 1) := by
  have : k = 2 ∨ k = 3 ∨ k = 4 := by omega
  rcases this with rfl | rfl | rfl <;> (unfold wrap64; omega)
theorem enc_size {a : Nat} : ((a + 1 : Nat) : Int) * (((a + 1 : Nat) : Int) - 1) = ((a * (a + 1) : Nat) : Int) := by
  have e : ((a + 1 : Nat) : Int) - 1 = (a : Int) := by omega
  rw [e, ← Int.natCast_mul, Nat.mul_comm]
theorem spec_EncodeMsr.ev (n k : Int) {D : List Int} (hb : Bytes D) : Ev (fun q => spec_EncodeMsr.f q n k D) (encVal n k D) := by
  unfold spec_EncodeMsr.f encVal
  simp only [spec_GoodMsr.ev, Option.bind_some, decide_eq_true_eq]
  by_cases h : GoodMsr n k
  · refine ev_pos h ?_
    obtain ⟨a, m, rfl, rfl, ha1, ha3, hm1, hm2⟩ := GoodMsr_nat h
    have e : wrap64 (((a + 1 : Nat) : Int) * wrap64 (((a + 1 : Nat) : Int) - 1)) = ((a * (a + 1) : Nat) : Int) := by
      rw [show wrap64 (((a + 1 : Nat) : Int) - 1) = ((a + 1 : Nat) : Int) - 1 by unfold wrap64; omega, enc_wrap h, enc_size]
    rw [e, enc_size]
    by_cases c : (D.length : Int) = ((a * (a + 1) : Nat) : Int)
    · rw [if_pos ⟨h, c⟩]
      exact ev_pos c (ev_bind (spec_l5Encode.ev ha1 ha3 hm2 hb (by omega)) (ev_now rfl))
    · rw [if_neg (fun z => c z.2)]
      exact ev_neg c (ev_now rfl)
  · rw [if_neg (fun z => h z.1)]
    exact ev_neg h (ev_now rfl)

theorem impl_within.ev (a b c : Int) : impl_within.f a b c = some (decide (b ≤ a ∧ a ≤ c)) := by
  unfold impl_within.f
  by_cases h : a ≥ b
  · rw [if_pos h]; simp [h]
  · rw [if_neg h]; simp; omega

theorem impl_GoodMsr.ev (n k : Int) : impl_GoodMsr.f n k = some (decide (GoodMsr n k)) := by
  unfold impl_GoodMsr.f
  simp only [impl_within.ev, Option.bind_some, decide_eq_true_eq]
  by_cases h : 2 ≤ k ∧ k ≤ 4
  · have e : wrap64 (wrap64 (2 * k) - 1) = 2 * k - 1 := by unfold wrap64; omega
    simp [h, e]
  · simp [h]

theorem impl_Msr_alpha.ev {n k : Int} (h : GoodMsr n k) : impl_Msr_alpha.f n k = some (k - 1) := by
  unfold impl_Msr_alpha.f
  have e : wrap64 (k - 1) = k - 1 := by unfold wrap64; omega
  rw [e]

theorem msr_size {n k : Int} (h : GoodMsr n k) : wrap64 (k * (k - 1)) = k * (k - 1) := by
  have : k = 2 ∨ k = 3 ∨ k = 4 := by omega
  rcases this with rfl | rfl | rfl <;> (unfold wrap64; omega)
theorem impl_Msr_size.ev {n k : Int} (h : GoodMsr n k) : impl_Msr_size.f n k = some (k * (k - 1)) := by
  unfold impl_Msr_size.f
  simp only [impl_Msr_alpha.ev h, Option.bind_some, msr_size h]

theorem impl_filled.ev_l1 {E : Nat → Int → Int → Option Int} (n m : Nat) (f : Nat → Nat → Int) (hm : m ≤ 1048576) (i : Nat) (hE : ∀ j, j < m → Ev (fun k => E k (i : Int) (j : Int)) (f i j)) (out : List (List Int)) (ho : out.length < 5864062014805) {R : List (List Int)}
    (K : Ev (fun k => impl_filled.l0 E k (m : Int) (out ++ [(List.range m).map (f i)]) (n : Int) (wrap64 ((i : Int) + 1))) R) : ∀ (d j : Nat) (o : List Int), j + d = m → o = (List.range j).map (f i) →
    Ev (fun k => impl_filled.l1 E k (m : Int) out (i : Int) o (n : Int) (i : Int) (m : Int) (j : Int)) R
  | 0, j, o, hj, hoj => by
    refine Ev.step (fun k => impl_filled.l1.eq_2 _ _ _ _ _ _ _ _ _ k) ?_
    refine ev_neg (by omega) (ev_pos ho ?_)
    rw [hoj, show j = m by omega]
    exact K
  | d + 1, j, o, hj, hoj => by
    have hol : o.length = j := by rw [hoj]; simp
    refine Ev.step (fun k => impl_filled.l1.eq_2 _ _ _ _ _ _ _ _ _ k) ?_
    refine ev_pos (by omega) (ev_bind (hE j (by omega)) (ev_pos (by omega) ?_))
    rw [inc (by omega)]
    refine impl_filled.ev_l1 n m f hm i hE out ho K d (j + 1) _ (by omega) ?_
    rw [hoj, List.range_succ, List.map_append]
    rfl
theorem impl_filled.ev_l0 {E : Nat → Int → Int → Option Int} (n m : Nat) (f : Nat → Nat → Int) (hn : n ≤ 1048576) (hm : m ≤ 1048576) (hE : ∀ i, i < n → ∀ j, j < m → Ev (fun k => E k (i : Int) (j : Int)) (f i j)) : ∀ (d i : Nat) (o : List (List Int)), i + d = n → o = tab i m f →
    Ev (fun k => impl_filled.l0 E k (m : Int) o (n : Int) (i : Int)) (tab n m f)
  | 0, i, o, hi, ho => by
    refine Ev.step (fun k => impl_filled.l0.eq_2 _ _ _ _ _ k) ?_
    refine ev_neg (by omega) (ev_now ?_)
    rw [ho, show i = n by omega]
  | d + 1, i, o, hi, ho => by
    have hol : o.length = i := by rw [ho, tab_length]
    have ih := impl_filled.ev_l0 n m f hn hm hE d (i + 1) (o ++ [(List.range m).map (f i)]) (by omega) (by
      rw [ho]
      unfold tab
      rw [List.range_succ, List.map_append]
      rfl)
    refine Ev.step (fun k => impl_filled.l0.eq_2 _ _ _ _ _ k) ?_
    refine ev_pos (by omega) ?_
    exact impl_filled.ev_l1 n m f hm i (hE i (by omega)) o (by omega) (by rw [inc (by omega)]; exact ih) m 0 [] (by omega) rfl
theorem impl_filled.ev {E : Nat → Int → Int → Option Int} (n m : Nat) (f : Nat → Nat → Int) (hn : n ≤ 1048576) (hm : m ≤ 1048576) (hE : ∀ i, i < n → ∀ j, j < m → Ev (fun k => E k (i : Int) (j : Int)) (f i j)) : Ev (fun k => impl_filled.f E k (n : Int) (m : Int)) (tab n m f) := by
  unfold impl_filled.f
  exact impl_filled.ev_l0 n m f hn hm hE n 0 [] (by omega) rfl

def placeM (a : Nat) : List (List Int) := tab (2 * a) a fun r j => (plc a r j : Int)
theorem impl_Msr_places.ev {n : Int} {a : Nat} (hg : GoodMsr n ((a + 1 : Nat) : Int)) : Ev (fun k => impl_Msr_places.f k n ((a + 1 : Nat) : Int)) (placeM a) := by
  refine Ev.of (k := 60) (fun k => impl_Msr_places.mono _ _ k) ?_
  unfold impl_Msr_places.f
  rw [impl_Msr_alpha.ev hg]
  simp only [Option.bind_some]
  have h : a = 1 ∨ a = 2 ∨ a = 3 := by omega
  rcases h with rfl | rfl | rfl
  · show _ = _; kernel_rfl
  · show _ = _; kernel_rfl
  · show _ = _; kernel_rfl

theorem impl_Msr_message.ev {n : Int} {a : Nat} (hg : GoodMsr n ((a + 1 : Nat) : Int)) {D : List Int} (hl : D.length = a * (a + 1)) : Ev (fun k => impl_Msr_message.f k n ((a + 1 : Nat) : Int) D) (msgM a D) := by
  unfold impl_Msr_message.f
  refine ev_bind (impl_Msr_places.ev hg) ?_
  rw [impl_Msr_alpha.ev hg]
  simp only [Option.bind_some]
  have ha1 : 1 ≤ a := by omega
  have ha3 : a ≤ 3 := by omega
  have e1 : wrap64 (2 * (((a + 1 : Nat) : Int) - 1)) = ((2 * a : Nat) : Int) := by unfold wrap64; omega
  have e2 : (((a + 1 : Nat) : Int) - 1) = (a : Int) := by omega
  rw [e1, e2]
  refine impl_filled.ev (2 * a) a (fun r j => D.getD (plc a r j) 0) (by omega) (by omega) (fun i hi j hj => ?_)
  have hr : rd_II (placeM a) (i : Int) = (List.range a).map fun j => (plc a i j : Int) := by
    unfold rd_II
    rw [Int.toNat_natCast]
    exact tab_getD hi
  have hv : rd ((List.range a).map fun j => (plc a i j : Int)) (j : Int) = (plc a i j : Int) := by
    rw [rd_nat]
    simp [List.getD, hj]
  have hp := plc_lt ha1 ha3 hi hj
  unfold impl_Msr_message.E
  rw [hr, hv]
  refine ev_pos ⟨⟨by omega, ?_⟩, ⟨by omega, ?_⟩, by omega, by omega⟩ (ev_now (rd_nat _ _))
  · unfold placeM
    rw [tab_length]
    omega
  · rw [List.length_map, List.length_range]
    omega

theorem impl_Times.ev_l0 (b : Nat) (hb : b < 256) : ∀ (n i o x : Nat), i + n = 8 → o < 256 → x < 256 →
    Ev (fun k => impl_Times.l0 k (b : Int) (o : Int) (i : Int) (x : Int)) ((T n o x (b / 2 ^ i) : Nat) : Int)
  | 0, i, o, x, hi, ho, hx => by
    refine Ev.step (fun k => impl_Times.l0.eq_2 _ _ _ _ k) ?_
    refine ev_neg (by omega) (ev_now ?_)
    simp only [T]
    omega
  | n + 1, i, o, x, hi, ho, hx => by
    refine Ev.step (fun k => impl_Times.l0.eq_2 _ _ _ _ k) ?_
    refine ev_pos (by omega) (ev_pos (by omega) ?_)
    have e1 : shr .u8 (b : Int) (i : Int) = ((b / 2 ^ i : Nat) : Int) := by
      unfold shr
      rw [Nat.min_eq_left (by simp only [IntKind.bits]; omega)]
      simp
    have hd : b / 2 ^ i < 256 := Nat.lt_of_le_of_lt (Nat.div_le_self _ _) hb
    have e2 : wrap64 ((x : Int) * 2) = ((2 * x : Nat) : Int) := by rw [wrap_id (by omega) (by omega)]; omega
    have e3 : wrap64 ((i : Int) + 1) = ((i + 1 : Nat) : Int) := by rw [wrap_id (by omega) (by omega)]; omega
    rw [e1, and1_u8 hd, e2, e3]
    have e4 : Go.bits .xor .i64 (o : Int) (x : Int) = ((o ^^^ x : Nat) : Int) := xor_i64 (by omega) (by omega)
    have e5 : Go.bits .xor .i64 ((2 * x : Nat) : Int) 283 = ((2 * x ^^^ 283 : Nat) : Int) := xor_i64 (m := 2 * x) (n := 283) (by omega) (by omega)
    have e6 : b / 2 ^ i / 2 = b / 2 ^ (i + 1) := by rw [Nat.div_div_eq_div_mul, Nat.pow_succ]
    rw [e4, e5]
    have hT : T (n + 1) o x (b / 2 ^ i) = T n (if b / 2 ^ i % 2 = 1 then o ^^^ x else o) (xt x) (b / 2 ^ (i + 1)) := by rw [T, e6]
    rw [hT]
    have hxt := xt_lt hx
    have hox := xor_lt ho hx
    by_cases h1 : b / 2 ^ i % 2 = 1
    · rw [if_pos h1]
      refine ev_pos (by omega) ?_
      by_cases h2 : 2 * x > 255
      · refine ev_pos (by omega) ?_
        have : xt x = 2 * x ^^^ 283 := by unfold xt; rw [if_pos h2]
        rw [this] at hxt ⊢
        exact impl_Times.ev_l0 b hb n (i + 1) _ _ (by omega) hox hxt
      · refine ev_neg (by omega) ?_
        have : xt x = 2 * x := by unfold xt; rw [if_neg h2]
        rw [this] at hxt ⊢
        exact impl_Times.ev_l0 b hb n (i + 1) _ _ (by omega) hox hxt
    · rw [if_neg h1]
      refine ev_neg (by omega) ?_
      by_cases h2 : 2 * x > 255
      · refine ev_pos (by omega) ?_
        have : xt x = 2 * x ^^^ 283 := by unfold xt; rw [if_pos h2]
        rw [this] at hxt ⊢
        exact impl_Times.ev_l0 b hb n (i + 1) _ _ (by omega) ho hxt
      · refine ev_neg (by omega) ?_
        have : xt x = 2 * x := by unfold xt; rw [if_neg h2]
        rw [this] at hxt ⊢
        exact impl_Times.ev_l0 b hb n (i + 1) _ _ (by omega) ho hxt
theorem impl_Times.ev {a b : Int} (ha : Byte a) (hb : Byte b) : Ev (fun k => impl_Times.f k a b) (mul a b) := by
  obtain ⟨m, hm, rfl⟩ := ha.nat
  obtain ⟨n, hn, rfl⟩ := hb.nat
  unfold impl_Times.f
  rw [wrap_id (by omega) (by omega)]
  have h := impl_Times.ev_l0 n hn 8 0 0 m rfl (by decide) hm
  exact ev_eq h (by unfold Gf.mul gm; simp)

theorem impl_dot.ev_l0 (v w : List Int) (hv : Bytes v) (hw : Bytes w) (hl : v.length = w.length) (hs : v.length < 140737488355328) : ∀ (n i : Nat) (o : Int), i + n = v.length → Byte o →
    Ev (fun k => impl_dot.l0 k w o v (v.length : Int) (i : Int)) (gx o (dotV (v.drop i) (w.drop i)))
  | 0, i, o, hi, ho => by
    refine Ev.step (fun k => impl_dot.l0.eq_2 _ _ _ _ _ k) ?_
    refine ev_neg (by omega) (ev_now ?_)
    rw [List.drop_of_length_le (by omega)]
    exact (gx_zero ho).symm
  | n + 1, i, o, hi, ho => by
    refine Ev.step (fun k => impl_dot.l0.eq_2 _ _ _ _ _ k) ?_
    refine ev_pos (by omega) (ev_pos (by omega) (ev_pos (by omega) (ev_pos (by omega) ?_)))
    have bv : Byte (rd v (i : Int)) := bytes_rd hv (by omega)
    have bw : Byte (rd w (i : Int)) := bytes_rd hw (by omega)
    refine ev_bind (impl_Times.ev bv bw) ?_
    have bm := Byte.mul bv (rd w (i : Int))
    have bg := Byte.gx ho bm
    rw [inc (by omega), xor_u8 ho bm]
    refine ev_eq (impl_dot.ev_l0 v w hv hw hl hs n (i + 1) _ (by omega) bg) ?_
    rw [drop_cons (l := v) (i := i) (by omega), drop_cons (l := w) (i := i) (by omega), rd_get (by omega), rd_get (by omega), dotV, gx_assoc]
theorem impl_dot.ev {v w : List Int} (hv : Bytes v) (hw : Bytes w) (hl : v.length = w.length) (hs : v.length < 140737488355328) : Ev (fun k => impl_dot.f k v w) (dotV v w) := by
  unfold impl_dot.f
  refine ev_eq (impl_dot.ev_l0 v w hv hw hl hs v.length 0 0 (by omega) .zero) ?_
  exact zero_gx (dotV_byte hv)

theorem impl_column.ev_l0 (l : List (List Int)) (c j : Nat) (hl : l.length ≤ 1048576) (hj : j < c) (hc : ∀ i, i < l.length → (l.getD i []).length = c) : ∀ (d i : Nat) (o : List Int), i + d = l.length → o = (List.range i).map (fun b => (l.getD b []).getD j 0) →
    Ev (fun k => impl_column.l0 k (j : Int) o l (l.length : Int) (i : Int)) ((List.range l.length).map fun b => (l.getD b []).getD j 0)
  | 0, i, o, hi, ho => by
    refine Ev.step (fun k => impl_column.l0.eq_2 _ _ _ _ _ k) ?_
    refine ev_neg (by omega) (ev_now ?_)
    rw [ho, show i = l.length by omega]
  | d + 1, i, o, hi, ho => by
    have e := hc i (by omega)
    have hol : o.length = i := by rw [ho]; simp
    refine Ev.step (fun k => impl_column.l0.eq_2 _ _ _ _ _ k) ?_
    simp only [rdSS0, Int.toNat_natCast]
    refine ev_pos (by omega) (ev_pos (by omega) (ev_pos (by omega) (ev_pos (by omega) (ev_pos (by omega) (ev_pos (by omega) ?_)))))
    rw [inc (by omega)]
    refine impl_column.ev_l0 l c j hl hj hc d (i + 1) _ (by omega) ?_
    rw [ho, List.range_succ, List.map_append, rd_nat]
    rfl
theorem impl_column.ev (l : List (List Int)) (c j : Nat) (hl : l.length ≤ 1048576) (hj : j < c) (hc : ∀ i, i < l.length → (l.getD i []).length = c) : Ev (fun k => impl_column.f k l (j : Int)) ((List.range l.length).map fun b => (l.getD b []).getD j 0) := by
  unfold impl_column.f
  exact impl_column.ev_l0 l c j hl hj hc l.length 0 [] (by omega) rfl

theorem impl_transposed.ev_l0 (l : List (List Int)) (hg : goodM l = true) : ∀ (d j : Nat) (o : List (List Int)), j + d = (l.getD 0 []).length → o = tab j l.length (fun j i => (l.getD i []).getD j 0) →
    Ev (fun k => impl_transposed.l0 k l o ((l.getD 0 []).length : Int) (j : Int)) (trM l)
  | 0, j, o, hj, ho => by
    refine Ev.step (fun k => impl_transposed.l0.eq_2 _ _ _ _ k) ?_
    refine ev_neg (by omega) (ev_now ?_)
    rw [ho, show j = (l.getD 0 []).length by omega]
    rfl
  | d + 1, j, o, hj, ho => by
    have hf := goodM_iff hg
    have hol : o.length = j := by rw [ho, tab_length]
    refine Ev.step (fun k => impl_transposed.l0.eq_2 _ _ _ _ k) ?_
    refine ev_pos (by omega) (ev_bind (impl_column.ev l _ j (by omega) (by omega) hf.2.2) (ev_pos (by omega) ?_))
    rw [inc (by omega)]
    refine impl_transposed.ev_l0 l hg d (j + 1) _ (by omega) ?_
    rw [ho]
    unfold tab
    rw [List.range_succ, List.map_append]
    rfl
theorem impl_transposed.ev (l : List (List Int)) (hg : goodM l = true) : Ev (fun k => impl_transposed.f k l) (trM l) := by
  have hf := goodM_iff hg
  unfold impl_transposed.f
  refine ev_pos (by omega) ?_
  simp only [rdSS0, Int.toNat_zero]
  exact impl_transposed.ev_l0 l hg (l.getD 0 []).length 0 [] (by omega) rfl

theorem impl_product.ev_l1 (a b : List (List Int)) (ha : matBytes a) (hb : matBytes b) (hg : goodM a = true) (hg2 : goodM b = true) (hp : (a.getD 0 []).length = b.length) (i : Nat) (hi : i < a.length) (out : List (List Int)) (ho : out.length < 5864062014805) {R : List (List Int)}
    (K : Ev (fun q => impl_product.l0 q (trM b) (out ++ [(List.range (b.getD 0 []).length).map fun j => prodAt a b i j b.length]) a (a.length : Int) (wrap64 ((i : Int) + 1))) R) : ∀ (d j : Nat) (o : List Int), j + d = (b.getD 0 []).length → o = (List.range j).map (fun j => prodAt a b i j b.length) →
    Ev (fun q => impl_product.l1 q (trM b) out (a.getD i []) o a (a.length : Int) (i : Int) (trM b) ((trM b).length : Int) (j : Int)) R
  | 0, j, o, hj, hoj => by
    have hl : (trM b).length = (b.getD 0 []).length := tab_length _ _ _
    refine Ev.step (fun q => impl_product.l1.eq_2 _ _ _ _ _ _ _ _ _ _ q) ?_
    refine ev_neg (by omega) (ev_pos ho ?_)
    rw [hoj, show j = (b.getD 0 []).length by omega]
    exact K
  | d + 1, j, o, hj, hoj => by
    have hl : (trM b).length = (b.getD 0 []).length := tab_length _ _ _
    have hf := goodM_iff hg2
    have hf1 := goodM_iff hg
    have e := hf1.2.2 i hi
    have hol : o.length = j := by rw [hoj]; simp
    have hrow : (trM b).getD j [] = (List.range b.length).map fun k => (b.getD k []).getD j 0 := tab_getD (by omega)
    refine Ev.step (fun q => impl_product.l1.eq_2 _ _ _ _ _ _ _ _ _ _ q) ?_
    simp only [rdSS0, Int.toNat_natCast]
    refine ev_pos (by omega) (ev_pos (by omega) (ev_pos (by omega) ?_))
    rw [hrow]
    have hd := impl_dot.ev (v := a.getD i []) (w := (List.range b.length).map fun k => (b.getD k []).getD j 0) (matBytes_row ha i) (fun z hz => by
      simp only [List.mem_map] at hz
      obtain ⟨k, _, rfl⟩ := hz
      exact matBytes_get hb k j) (by rw [List.length_map, List.length_range]; omega) (by omega)
    rw [prodM_dot ha (by omega)] at hd
    refine ev_bind hd (ev_pos (by omega) ?_)
    rw [inc (by omega)]
    refine impl_product.ev_l1 a b ha hb hg hg2 hp i hi out ho K d (j + 1) _ (by omega) ?_
    rw [hoj, List.range_succ, List.map_append]
    rfl
theorem impl_product.ev_l0 (a b : List (List Int)) (ha : matBytes a) (hb : matBytes b) (hg : goodM a = true) (hg2 : goodM b = true) (hp : (a.getD 0 []).length = b.length) : ∀ (d i : Nat) (o : List (List Int)), i + d = a.length → o = tab i (b.getD 0 []).length (fun i j => prodAt a b i j b.length) →
    Ev (fun q => impl_product.l0 q (trM b) o a (a.length : Int) (i : Int)) (prodM a b)
  | 0, i, o, hi, ho => by
    refine Ev.step (fun q => impl_product.l0.eq_2 _ _ _ _ _ q) ?_
    refine ev_neg (by omega) (ev_now ?_)
    rw [ho, show i = a.length by omega]
    rfl
  | d + 1, i, o, hi, ho => by
    have hf1 := goodM_iff hg
    have hol : o.length = i := by rw [ho, tab_length]
    have ih := impl_product.ev_l0 a b ha hb hg hg2 hp d (i + 1) (o ++ [(List.range (b.getD 0 []).length).map fun j => prodAt a b i j b.length]) (by omega) (by
      rw [ho]
      unfold tab
      rw [List.range_succ, List.map_append]
      rfl)
    refine Ev.step (fun q => impl_product.l0.eq_2 _ _ _ _ _ q) ?_
    simp only [rdSS0, Int.toNat_natCast]
    refine ev_pos (by omega) (ev_pos (by omega) (ev_pos (by omega) ?_))
    exact impl_product.ev_l1 a b ha hb hg hg2 hp i (by omega) o (by omega) (by rw [inc (by omega)]; exact ih) (b.getD 0 []).length 0 [] (by omega) rfl
theorem impl_product.ev (a b : List (List Int)) (ha : matBytes a) (hb : matBytes b) (hg : goodM a = true) (hg2 : goodM b = true) (hp : (a.getD 0 []).length = b.length) : Ev (fun q => impl_product.f q a b) (prodM a b) := by
  unfold impl_product.f
  refine ev_bind (impl_transposed.ev b hg2) ?_
  exact impl_product.ev_l0 a b ha hb hg hg2 hp a.length 0 [] (by omega) rfl

theorem impl_power.ev_l0 : ∀ (N n : Nat) (a o : Int), n ≤ N → n < 4294967296 → Byte a → Byte o → Ev (fun k => impl_power.l0 k a (n : Int) o) (mul o (pow a n)) := by
  intro N
  induction N with
  | zero =>
    intro n a o hN hn ha ho
    obtain rfl : n = 0 := by omega
    refine Ev.step (fun k => impl_power.l0.eq_2 _ _ _ k) ?_
    exact ev_neg (by omega) (ev_now (by rw [pow_zero, mul_one ho]))
  | succ N ih =>
    intro n a o hN hn ha ho
    refine Ev.step (fun k => impl_power.l0.eq_2 _ _ _ k) ?_
    by_cases h0 : n = 0
    · subst h0
      exact ev_neg (by omega) (ev_now (by rw [pow_zero, mul_one ho]))
    refine ev_pos (by omega) ?_
    have e : ((n : Int) / 2) = ((n / 2 : Nat) : Int) := by omega
    have haa := Byte.mul ha a
    have hsq : pow (mul a a) (n / 2) = pow a (2 * (n / 2)) := by rw [pow_mul ha, pow_two ha]
    rw [and1_i64 hn, e]
    by_cases h1 : n % 2 = 1
    · refine ev_pos (by omega) ?_
      refine ev_bind (impl_Times.ev ho ha) (ev_bind (impl_Times.ev ha ha) ?_)
      refine ev_eq (ih (n / 2) _ _ (by omega) (by omega) haa (Byte.mul ho a)) ?_
      have hn2 : n = 1 + 2 * (n / 2) := by omega
      rw [hsq, mul_assoc ho ha (Byte.pow ha _)]
      conv => rhs; rw [hn2, pow_add ha, pow_one ha]
    · refine ev_neg (by omega) ?_
      refine ev_bind (impl_Times.ev ha ha) ?_
      refine ev_eq (ih (n / 2) _ _ (by omega) (by omega) haa ho) ?_
      have hn2 : n = 2 * (n / 2) := by omega
      rw [hsq, ← hn2]
theorem impl_power.ev {a : Int} (ha : Byte a) (n : Nat) (hn : n < 4294967296) : Ev (fun k => impl_power.f k a (n : Int)) (pow a n) := by
  unfold impl_power.f
  refine ev_eq (impl_power.ev_l0 n n a 1 (Nat.le_refl _) hn ha .one) ?_
  exact one_mul (Byte.pow ha n)

theorem impl_Msr_powers.ev_l0 {n : Int} (a j : Nat) (hg : GoodMsr n ((a + 1 : Nat) : Int)) : ∀ (d i : Nat) (o : List Int), i + d = a → o = (shortR a j).take i →
    Ev (fun k => impl_Msr_powers.l0 k (nodeX j) o (a : Int) (i : Int) n ((a + 1 : Nat) : Int)) (shortR a j, pow (nodeX j) a)
  | 0, i, o, hi, ho => by
    have e : ((a + 1 : Nat) : Int) - 1 = (a : Int) := by omega
    refine Ev.step (fun k => impl_Msr_powers.l0.eq_2 _ _ _ _ _ _ k) ?_
    refine ev_neg (by omega) ?_
    simp only [impl_Msr_alpha.ev hg, Option.bind_some, e]
    refine ev_bind (impl_power.ev (nodeX_byte j) a (by omega)) (ev_now ?_)
    rw [ho, List.take_of_length_le (by rw [shortR_length]; omega)]
  | d + 1, i, o, hi, ho => by
    have hl : o.length ≤ 3 := by rw [ho, List.length_take, shortR_length]; omega
    refine Ev.step (fun k => impl_Msr_powers.l0.eq_2 _ _ _ _ _ _ k) ?_
    refine ev_pos (by omega) ?_
    refine ev_bind (impl_power.ev (nodeX_byte j) i (by omega)) (ev_pos (by omega) ?_)
    rw [inc (by omega)]
    exact impl_Msr_powers.ev_l0 a j hg d (i + 1) _ (by omega) (by rw [shortR_succ a j i (by omega), ← ho])
theorem impl_Msr_powers.ev {n : Int} (a j : Nat) (hg : GoodMsr n ((a + 1 : Nat) : Int)) (hj : j < 1000000) : Ev (fun k => impl_Msr_powers.f k n ((a + 1 : Nat) : Int) (j : Int)) (shortR a j, pow (nodeX j) a) := by
  unfold impl_Msr_powers.f
  have e : ((a + 1 : Nat) : Int) - 1 = (a : Int) := by omega
  rw [inc (by omega)]
  refine ev_bind (impl_power.ev byte3 (j + 1) (by omega)) ?_
  simp only [impl_Msr_alpha.ev hg, Option.bind_some, e]
  exact impl_Msr_powers.ev_l0 a j hg a 0 [] (by omega) rfl

theorem impl_scaled.ev_l0 (a : Int) (ha : Byte a) (v : List Int) (hv : Bytes v) (hs : v.length < 140737488355328) : ∀ (n i : Nat) (o : List Int), i + n = v.length → o = (scale a v).take i →
    Ev (fun k => impl_scaled.l0 k a o v (v.length : Int) (i : Int)) (scale a v)
  | 0, i, o, hi, ho => by
    refine Ev.step (fun k => impl_scaled.l0.eq_2 _ _ _ _ _ k) ?_
    refine ev_neg (by omega) (ev_now ?_)
    subst ho
    rw [List.take_of_length_le (by rw [scale_length]; omega)]
  | n + 1, i, o, hi, ho => by
    have hz := scale_length a v
    have hlen : o.length = i := by rw [ho, List.length_take, hz]; omega
    refine Ev.step (fun k => impl_scaled.l0.eq_2 _ _ _ _ _ k) ?_
    refine ev_pos (by omega) (ev_pos (by omega) (ev_pos (by omega) ?_))
    refine ev_bind (impl_Times.ev ha (bytes_rd hv (by omega))) ?_
    refine ev_pos (by omega) ?_
    rw [inc (by omega), rd_get (by omega)]
    refine impl_scaled.ev_l0 a ha v hv hs n (i + 1) _ (by omega) ?_
    rw [List.take_succ_eq_append_getElem (by omega), ← ho]
    simp [scale]
theorem impl_scaled.ev {a : Int} (ha : Byte a) {v : List Int} (hv : Bytes v) (hs : v.length < 140737488355328) : Ev (fun k => impl_scaled.f k a v) (scale a v) := by
  unfold impl_scaled.f
  exact impl_scaled.ev_l0 a ha v hv hs v.length 0 [] (by omega) rfl

theorem impl_Msr_row.ev {n : Int} (a j : Nat) (hg : GoodMsr n ((a + 1 : Nat) : Int)) (hj : j < 1000000) : Ev (fun k => impl_Msr_row.f k n ((a + 1 : Nat) : Int) (j : Int)) (msrRow a j) := by
  unfold impl_Msr_row.f
  have hl := shortR_length a j
  have hs := scale_length (pow (nodeX j) a) (shortR a j)
  refine ev_bind (impl_Msr_powers.ev a j hg hj) ?_
  dsimp only
  exact ev_bind (impl_scaled.ev (Byte.pow (nodeX_byte j) a) (shortR_bytes a j) (by omega)) (ev_pos (by omega) (ev_now rfl))

theorem impl_EncodeMsr.ev_l0 {a m : Nat} (hg : GoodMsr (m : Int) ((a + 1 : Nat) : Int)) {D : List Int} (hb : Bytes D) : ∀ (d i : Nat), i + d = m → Ev (fun k => impl_EncodeMsr.l0 k (msgM a D) ((encL m a D).take i) (m : Int) (i : Int) (m : Int) ((a + 1 : Nat) : Int)) (encL m a D, true)
  | 0, i, hi => by
    have hz := encL_length m a D
    refine Ev.step (fun k => impl_EncodeMsr.l0.eq_2 _ _ _ _ _ _ k) ?_
    refine ev_neg (by omega) (ev_now ?_)
    rw [List.take_of_length_le (by omega)]
  | d + 1, i, hi => by
    have hz := encL_length m a D
    have h1 : 1 ≤ a := by omega
    have h3 : a ≤ 3 := by omega
    have hr := msrRow_length a i
    have hrb := msrRow_bytes a i
    have hml := msgM_length a D
    have hgr : goodM [msrRow a i] = true := goodM_same (n := 2 * a) (fun r hr2 => by rw [List.mem_singleton.1 hr2]; exact hr) (by simp) (by simp) (by omega) (by omega)
    have hp : (prodM [msrRow a i] (msgM a D)).length = 1 := tab_length _ _ _
    refine Ev.step (fun k => impl_EncodeMsr.l0.eq_2 _ _ _ _ _ _ k) ?_
    refine ev_pos (by omega) (ev_bind (impl_Msr_row.ev a i hg (by omega)) (ev_bind (impl_product.ev [msrRow a i] (msgM a D) (fun r hr2 => by rw [List.mem_singleton.1 hr2]; exact hrb) (msgM_bytes a hb) hgr (msgM_good h1 h3 D) (hr.trans hml.symm)) (ev_pos (by omega) (ev_pos (by rw [List.length_take]; omega) ?_))))
    rw [row_product (msgM_bytes a hb) hrb (hr.trans hml.symm), show (⟨(i : Int), applyM (trM (msgM a D)) (msrRow a i)⟩ : Pc) = pieceAt a D i from rfl, ← encL_succ m a D i (by omega), inc (by omega)]
    exact impl_EncodeMsr.ev_l0 hg hb d (i + 1) (by omega)
theorem impl_EncodeMsr.ev (n k : Int) {D : List Int} (hb : Bytes D) : Ev (fun q => impl_EncodeMsr.f q n k D) (encVal n k D) := by
  unfold impl_EncodeMsr.f encVal
  simp only [impl_GoodMsr.ev, Option.bind_some, decide_eq_true_eq]
  by_cases h : GoodMsr n k
  · refine ev_pos h ?_
    obtain ⟨a, m, rfl, rfl, ha1, ha3, hm1, hm2⟩ := GoodMsr_nat h
    simp only [impl_Msr_size.ev h, Option.bind_some]
    rw [enc_size]
    refine Ev.step (fun k => impl_EncodeMsr.j0.eq_2 _ _ _ _ k) ?_
    by_cases c : (D.length : Int) = ((a * (a + 1) : Nat) : Int)
    · rw [if_pos ⟨h, c⟩]
      refine ev_neg (by simp [c]) (ev_bind (impl_Msr_message.ev h (by omega)) ?_)
      exact impl_EncodeMsr.ev_l0 h hb m 0 (by omega)
    · rw [if_neg (fun z => c z.2)]
      exact ev_pos (bne_iff_ne.2 c) (ev_now rfl)
  · rw [if_neg (fun z => h z.1)]
    refine ev_neg h ?_
    refine Ev.step (fun k => impl_EncodeMsr.j0.eq_2 _ _ _ _ k) ?_
    exact ev_pos rfl (ev_now rfl)

theorem laws_eqPiece.ev (x : Int) (l : List Int) (hl : l.length ≤ 281474976710656) : Ev (fun k => laws_eqPiece.f k x l x l) true := by
  unfold laws_eqPiece.f
  exact ev_pos rfl (ev_bind (laws_eqByteS.ev l hl) (ev_pos rfl (ev_now rfl)))

theorem rd_pc (l : List (S76)) (i : Nat) (h : i < l.length) : rd_T76 l (i : Int) = l[i] := by unfold rd_T76; simp [List.getD, h]
theorem laws_eqPieceS.ev_l0 (l : List (S76)) (hl : l.length < 4611686018427387904) (hp : ∀ p ∈ l, p.f1.length ≤ 281474976710656) : ∀ (n i : Nat), i + n = l.length → Ev (fun k => laws_eqPieceS.l0 k l l (i : Int)) true
  | 0, i, hi => by
    refine Ev.step (fun k => laws_eqPieceS.l0.eq_2 _ _ _ k) ?_
    exact ev_neg (by omega) (ev_now rfl)
  | n + 1, i, hi => by
    refine Ev.step (fun k => laws_eqPieceS.l0.eq_2 _ _ _ k) ?_
    refine ev_pos (by omega) (ev_pos (by omega) (ev_pos (by omega) ?_))
    rw [rd_pc l i (by omega), inc (by omega)]
    refine ev_bind (laws_eqPiece.ev _ _ (hp _ (List.getElem_mem _))) (ev_pos rfl ?_)
    exact laws_eqPieceS.ev_l0 l hl hp n (i + 1) (by omega)
theorem laws_eqPieceS.ev (l : List (S76)) (hl : l.length ≤ 281474976710656) (hp : ∀ p ∈ l, p.f1.length ≤ 281474976710656) : Ev (fun k => laws_eqPieceS.f k l l) true := by
  unfold laws_eqPieceS.f
  exact ev_pos rfl (laws_eqPieceS.ev_l0 l (by omega) hp l.length 0 (by omega))

theorem laws_heldByteS.ev_l0 (a : Int) (m : Nat) (ha : 0 ≤ a) (hm : a + m < 4611686018427387904) : ∀ (n i : Nat), i + n = m →
    Ev (fun k => laws_heldByteS.l0 k (markB a m) (a + (i : Nat)) (i : Int)) (a + (m : Nat))
  | 0, i, hi => by
    have hb := markB_length a m
    refine Ev.step (fun k => laws_heldByteS.l0.eq_2 _ _ _ k) ?_
    refine ev_neg (by omega) (ev_now ?_)
    have : i = m := by omega
    rw [this]
  | n + 1, i, hi => by
    have hb := markB_length a m
    refine Ev.step (fun k => laws_heldByteS.l0.eq_2 _ _ _ k) ?_
    refine ev_pos (by omega) (ev_pos (by omega) (ev_pos (by rw [rd_get (by omega), markB_get]) ?_))
    have e : wrap64 (a + (i : Nat) + 1) = a + ((i + 1 : Nat) : Int) := by unfold wrap64; omega
    rw [inc (by omega), e]
    exact laws_heldByteS.ev_l0 a m ha hm n (i + 1) (by omega)
theorem laws_heldByteS.ev (a : Int) (m : Nat) (ha : 0 ≤ a) (hm : a + m < 4611686018427387904) : Ev (fun k => laws_heldByteS.f k (markB a m) a) (a + (m : Nat)) := by
  unfold laws_heldByteS.f
  have := laws_heldByteS.ev_l0 a m ha hm m 0 (by omega)
  simpa using this

theorem markPS_get (R : List (S76)) : ∀ (a : Int) (i : Nat) (h : i < R.length), (markPS a R)[i]'(by rw [markPS_length]; exact h) = ⟨a + (totPS (R.take i) : Nat), markB (a + (totPS (R.take i) : Nat) + 1) (R[i]).f1.length⟩ := by
  induction R with
  | nil => intro a i h; simp at h
  | cons r R ih =>
    intro a i h
    cases i with
    | zero => simp [markPS, totPS]
    | succ i =>
      have := ih (a + 1 + (r.f1.length : Nat)) i (by simpa using h)
      simp only [markPS, List.getElem_cons_succ, List.take_succ_cons, totPS] at this ⊢
      rw [this]
      have e : a + 1 + ((r.f1.length : Nat) : Int) + ((totPS (R.take i) : Nat) : Int) = a + ((1 + r.f1.length + totPS (R.take i) : Nat) : Int) := by omega
      rw [e]
theorem laws_heldPieceS.ev_l0 (R : List (S76)) (a : Int) (ha : 0 ≤ a) (hm : a + (totPS R : Nat) < 4611686018427387904) (hl : R.length < 4611686018427387904) : ∀ (n i : Nat), i + n = R.length →
    Ev (fun k => laws_heldPieceS.l0 k (markPS a R) (a + (totPS (R.take i) : Nat)) (i : Int)) (a + (totPS R : Nat))
  | 0, i, hi => by
    have hb := markPS_length a R
    refine Ev.step (fun k => laws_heldPieceS.l0.eq_2 _ _ _ k) ?_
    refine ev_neg (by omega) (ev_now ?_)
    rw [List.take_of_length_le (by omega)]
  | n + 1, i, hi => by
    have hb := markPS_length a R
    have hlt : i < R.length := by omega
    have htake : totPS (R.take (i + 1)) = totPS (R.take i) + 1 + R[i].f1.length := by
      rw [List.take_succ_eq_append_getElem hlt, totPS_append]; simp [totPS]; omega
    have hle : totPS (R.take (i + 1)) ≤ totPS R := by
      have e := congrArg totPS (List.take_append_drop (i + 1) R)
      rw [totPS_append] at e
      omega
    have ih := laws_heldPieceS.ev_l0 R a ha hm hl n (i + 1) (by omega)
    rw [htake] at ih
    refine Ev.step (fun k => laws_heldPieceS.l0.eq_2 _ _ _ k) ?_
    refine ev_pos (by omega) (ev_pos (by omega) ?_)
    have ew : wrap64 (a + (totPS (R.take i) : Nat) + 1) = a + (totPS (R.take i) : Nat) + 1 := by unfold wrap64; omega
    rw [rd_pc _ i (by omega), markPS_get R a i hlt, inc (by omega), ew]
    refine ev_pos rfl (ev_bind (laws_heldByteS.ev _ _ (by omega) (by omega)) (ev_neg (by omega) (ev_eq ?_ rfl)))
    have e : a + ((totPS (R.take i) + 1 + R[i].f1.length : Nat) : Int) = a + (totPS (R.take i) : Nat) + 1 + (R[i].f1.length : Nat) := by omega
    rw [e] at ih
    exact ih
theorem laws_heldPieceS.ev (R : List (S76)) (a : Int) (ha : 0 ≤ a) (hm : a + (totPS R : Nat) < 4611686018427387904) (hl : R.length < 4611686018427387904) : Ev (fun k => laws_heldPieceS.f k (markPS a R) a) (a + (totPS R : Nat)) := by
  unfold laws_heldPieceS.f
  have := laws_heldPieceS.ev_l0 R a ha hm hl R.length 0 (by omega)
  simpa [totPS] using this

theorem totPS_le {n : Nat} : ∀ (R : List Pc), (∀ p ∈ R, p.f1.length ≤ n) → totPS R ≤ R.length * (n + 1)
  | [], _ => by simp [totPS]
  | p :: R, h => by
    have := totPS_le R (fun q hq => h q (by simp [hq]))
    have := h p (by simp)
    simp only [totPS, List.length_cons, Nat.succ_mul]
    omega
theorem encVal_small (n k : Int) (D : List Int) : (encVal n k D).1.length ≤ 14 ∧ ∀ p ∈ (encVal n k D).1, p.f1.length ≤ 3 := by
  unfold encVal
  split
  · rename_i h
    obtain ⟨a, m, rfl, rfl, ha1, ha3, hm1, hm2⟩ := GoodMsr_nat h.1
    refine ⟨by dsimp only; rw [encL_length]; omega, fun p hp => ?_⟩
    simp only [encL, List.mem_map] at hp
    obtain ⟨i, _, rfl⟩ := hp
    rw [pieceAt_length (by omega)]
    omega
  · exact ⟨by simp, by simp⟩
theorem FnExactEncodeMsr : ∀ (n k : Int) (l : List Int), ((Lit.int .i64 n).wf = true ∧ (Lit.int .i64 k).wf = true) → (l.length ≤ maxLen ∧ ∀ x ∈ l, (Lit.int .u8 x).wf = true) → laws_FnExactEncodeMsr.Facts n k l := by
  intro n k l _ hl
  have hb := Bytes.of_wf hl.2
  by_cases c1 : 1048576 < (l.length : Int)
  · exact .inl c1
  · have hz := encVal_small n k l
    have hs := spec_EncodeMsr.ev n k hb
    have hi := impl_EncodeMsr.ev n k hb
    have ht := totPS_le (n := 3) (encVal n k l).1 hz.2
    refine .inr ⟨l, (encVal n k l).1, (encVal n k l).2, c1, by simp only [laws_toMsr.ev], Ev.rounds (laws_toByteS.ev l (by omega)), ?_⟩
    generalize encVal n k l = v at *
    obtain ⟨R, b⟩ := v
    dsimp only at *
    exact ⟨Ev.rounds hs, Ev.rounds hi, Ev.rounds (laws_eqPieceS.ev R (by omega) (fun p hp => by have := hz.2 p hp; omega)), Ev.rounds (laws_eqByteS.ev l (by omega)), Ev.rounds (laws_heldPieceS.ev R 1 (by decide) (by omega) (by omega)),
      fun l a h1 h2 => Ev.rounds (laws_markByteS.ev l a h1 h2), by omega, by omega, by omega⟩

end Go.Proofs.Yteflgifmdojahaa.Pure
