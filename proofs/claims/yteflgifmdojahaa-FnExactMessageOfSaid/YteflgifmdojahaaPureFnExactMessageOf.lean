/- The given program's MessageOf returns what the reference's MessageOf returns, for all codes and data, leaves the data as they were, and what it returns is its own; there is no condition. -/
import Derived.Test.YteflgifmdojahaaPFnExactMessageOfx
import Derived.Test.YteflgifmdojahaaWalkFnExactMessageOf
import Derived.Test.YteflgifmdojahaaKit
import Derived.Test.YteflgifmdojahaaTxt
namespace Go.Proofs.Yteflgifmdojahaa.Pure
open Go.RowKit Go.Proofs.Yteflgifmdojahaa.PFnExactMessageOf Go.Proofs.YteflgifmdojahaaW.PrintWords Go.Proofs.YteflgifmdojahaaW.PrintLast Go.Proofs.Yteflgifmdojahaa.Gf Go.Proofs.Yteflgifmdojahaa.Kit Go.Proofs.Yteflgifmdojahaa.KitW
open Go.Proofs.Yteflgifmdojahaa.KitN hiding idM_length
set_option linter.unusedVariables false
set_option linter.unusedSimpArgs false

theorem rdSS (l : List (List Int)) (i : Nat) (h : i < l.length) : rd_L1 l (i : Int) = l[i] := by unfold rd_L1; simp [List.getD, h]
theorem rdSS0 (l : List (List Int)) (i : Int) : rd_L1 l i = l.getD i.toNat [] := rfl
theorem spec_l1In.ev (a b c : Int) : spec_l1In.f a b c = some (decide (b ≤ a ∧ a ≤ c)) := by
  unfold spec_l1In.f
  by_cases h : a ≥ b
  · rw [if_pos h]; simp [h]
  · rw [if_neg h]; simp; omega

theorem spec_GoodMsr.ev (n k : Int) : spec_GoodMsr.f n k = some (decide (GoodMsr n k)) := by
  unfold spec_GoodMsr.f
  simp only [spec_l1In.ev, Option.bind_some, decide_eq_true_eq]
  by_cases h : 2 ≤ k ∧ k ≤ 4
  · have e : wrap64 (wrap64 (2 * k) - 1) = 2 * k - 1 := by unfold wrap64; omega
    simp [h, e]
  · simp [h]

theorem spec_l2Blank.ev_l0 (n m : Nat) (hn : n ≤ 1048576) (hm : m ≤ 1048576) : ∀ (d i : Nat), i + d = n → Ev (fun k => spec_l2Blank.l0 k (n : Int) (m : Int) (i : Int) (blankM i m)) (blankM n m)
  | 0, i, hi => by
    obtain rfl : i = n := by omega
    refine Ev.step (fun k => spec_l2Blank.l0.eq_2 _ _ _ _ k) ?_
    exact ev_neg (by omega) (ev_now rfl)
  | d + 1, i, hi => by
    have ih := spec_l2Blank.ev_l0 n m hn hm d (i + 1) (by omega)
    refine Ev.step (fun k => spec_l2Blank.l0.eq_2 _ _ _ _ k) ?_
    refine ev_pos (by omega) (ev_pos (by omega) (ev_pos (by omega) (ev_pos (by simp [blankM]; omega) ?_)))
    rw [inc (by omega), Int.toNat_natCast]
    have e : blankM i m ++ [List.replicate m 0] = blankM (i + 1) m := by
      unfold blankM; rw [List.replicate_succ']
    rw [e]
    exact ih
theorem spec_l2Blank.ev (n m : Nat) (hn : n ≤ 1048576) (hm : m ≤ 1048576) : Ev (fun k => spec_l2Blank.f k (n : Int) (m : Int)) (blankM n m) := by
  unfold spec_l2Blank.f
  exact spec_l2Blank.ev_l0 n m hn hm n 0 (by omega)

/-- Where a byte of data stands in the message's matrix. -/
def plc (a r j : Nat) : Nat := (r / a) * (a * (a + 1) / 2) + (min (r % a) j * a - min (r % a) j * (min (r % a) j - 1) / 2 + (max (r % a) j - min (r % a) j))
theorem plc_lt {a : Nat} (h1 : 1 ≤ a) (h3 : a ≤ 3) {r j : Nat} (hr : r < 2 * a) (hj : j < a) : plc a r j < a * (a + 1) := by
  have h : a = 1 ∨ a = 2 ∨ a = 3 := by omega
  have key : (∀ r, r < 2 → ∀ j, j < 1 → plc 1 r j < 2) ∧ (∀ r, r < 4 → ∀ j, j < 2 → plc 2 r j < 6) ∧ (∀ r, r < 6 → ∀ j, j < 3 → plc 3 r j < 12) := by decide
  rcases h with rfl | rfl | rfl
  · exact key.1 r hr j hj
  · exact key.2.1 r hr j hj
  · exact key.2.2 r hr j hj
/-- The message's matrix. -/
def msgM (a : Nat) (D : List Int) : List (List Int) := tab (2 * a) a fun r j => D.getD (plc a r j) 0
theorem msg_list (f : Nat → Int) : (List.range 2).map f = [f 0, f 1] ∧ (List.range 6).map f = [f 0, f 1, f 2, f 3, f 4, f 5] ∧ (List.range 12).map f = [f 0, f 1, f 2, f 3, f 4, f 5, f 6, f 7, f 8, f 9, f 10, f 11] := ⟨rfl, rfl, rfl⟩
theorem spec_l5Message.ev (n : Int) {a : Nat} (ha1 : 1 ≤ a) (ha3 : a ≤ 3) {D : List Int} (hl : D.length = a * (a + 1)) : Ev (fun k => spec_l5Message.f k n ((a + 1 : Nat) : Int) D) (msgM a D) := by
  unfold spec_l5Message.f
  have e1 : wrap64 (((a + 1 : Nat) : Int) - 1) = (a : Int) := by unfold wrap64; omega
  have e2 : wrap64 (2 * (a : Int)) = ((2 * a : Nat) : Int) := by unfold wrap64; omega
  rw [e1, e2]
  refine ev_bind (spec_l2Blank.ev (2 * a) a (by omega) (by omega)) ?_
  refine Ev.of (k := 60) (fun k => (spec_l5Message.mono_l k).1 _ _ _ _ _) ?_
  have hD := row_self hl
  generalize D.getD = g at hD
  have h : a = 1 ∨ a = 2 ∨ a = 3 := by omega
  unfold msgM
  rcases h with rfl | rfl | rfl
  · rw [hD]
    generalize (fun j => g j 0) = f
    rw [show (1 * (1 + 1)) = 2 from rfl, (msg_list f).1]
    show _ = _; kernel_rfl
  · rw [hD]
    generalize (fun j => g j 0) = f
    rw [show (2 * (2 + 1)) = 6 from rfl, (msg_list f).2.1]
    show _ = _; kernel_rfl
  · rw [hD]
    generalize (fun j => g j 0) = f
    rw [show (3 * (3 + 1)) = 12 from rfl, (msg_list f).2.2]
    show _ = _; kernel_rfl

def msgVal (n k : Int) (D : List Int) : List (List Int) × Bool := if GoodMsr n k ∧ (D.length : Int) = k * (k - 1) then (msgM (k.toNat - 1) D, true) else ([], false)
theorem msg_wrap {n k : Int} (h : GoodMsr n k) : wrap64 (k * (k - 1)) = k * (k - 1) := by
  have : k = 2 ∨ k = 3 ∨ k = 4 := by omega
  rcases this with rfl | rfl | rfl <;> (unfold wrap64; omega)
theorem msg_size {a : Nat} : ((a + 1 : Nat) : Int) * (((a + 1 : Nat) : Int) - 1) = ((a * (a + 1) : Nat) : Int) := by
  have e : ((a + 1 : Nat) : Int) - 1 = (a : Int) := by omega
  rw [e, ← Int.natCast_mul, Nat.mul_comm]
theorem spec_MessageOf.ev (n k : Int) (D : List Int) : Ev (fun q => spec_MessageOf.f q n k D) (msgVal n k D) := by
  unfold spec_MessageOf.f msgVal
  simp only [spec_GoodMsr.ev, Option.bind_some, decide_eq_true_eq]
  by_cases h : GoodMsr n k
  · refine ev_pos h ?_
    obtain ⟨a, m, rfl, rfl, ha1, ha3, hm1, hm2⟩ := GoodMsr_nat h
    have e : wrap64 (((a + 1 : Nat) : Int) * wrap64 (((a + 1 : Nat) : Int) - 1)) = ((a * (a + 1) : Nat) : Int) := by
      rw [show wrap64 (((a + 1 : Nat) : Int) - 1) = ((a + 1 : Nat) : Int) - 1 by unfold wrap64; omega, msg_wrap h, msg_size]
    rw [e, msg_size]
    by_cases c : (D.length : Int) = ((a * (a + 1) : Nat) : Int)
    · rw [if_pos ⟨h, c⟩]
      exact ev_pos c (ev_bind (spec_l5Message.ev _ ha1 ha3 (by omega)) (ev_now rfl))
    · rw [if_neg (fun z => c z.2)]
      exact ev_neg c (ev_now rfl)
  · rw [if_neg (fun z => h z.1)]
    exact ev_neg h (ev_now rfl)

theorem laws_toMsr.ev (n k : Int) : laws_toMsr.f n k = some (n, k) := rfl

theorem laws_toByteS.ev_l0 (l : List Int) (hl : l.length < 4611686018427387904) : ∀ (n i : Nat) (o : List Int), i + n = l.length → o.length = l.length → o.take i = l.take i →
    Ev (fun k => laws_toByteS.l0 k l o (i : Int)) l
  | 0, i, o, hi, ho, ht => by
    refine Ev.step (fun k => laws_toByteS.l0.eq_2 _ _ _ k) ?_
    refine ev_neg (by omega) (ev_now ?_)
    rw [List.take_of_length_le (by omega), List.take_of_length_le (by omega)] at ht
    exact ht
  | n + 1, i, o, hi, ho, ht => by
    refine Ev.step (fun k => laws_toByteS.l0.eq_2 _ _ _ k) ?_
    refine ev_pos (by omega) (ev_pos (by omega) (ev_pos (by omega) ?_))
    rw [inc (by omega), Int.toNat_natCast]
    refine laws_toByteS.ev_l0 l hl n (i + 1) _ (by omega) (by simpa using ho) ?_
    rw [take_set_succ _ _ _ (by omega), ht, List.take_succ_eq_append_getElem (by omega), rd_get (by omega)]
theorem laws_toByteS.ev (l : List Int) (hl : l.length ≤ 281474976710656) : Ev (fun k => laws_toByteS.f k l) l := by
  unfold laws_toByteS.f
  refine ev_pos (by omega) (ev_pos (by omega) ?_)
  exact laws_toByteS.ev_l0 l (by omega) l.length 0 _ (by omega) (by simp) rfl

theorem impl_within.ev (a b c : Int) : impl_within.f a b c = some (decide (b ≤ a ∧ a ≤ c)) := by
  unfold impl_within.f
  by_cases h : a ≥ b
  · rw [if_pos h]; simp [h]
  · rw [if_neg h]; simp; omega

theorem impl_GoodMsr.ev (n k : Int) : impl_GoodMsr.f n k = some (decide (GoodMsr n k)) := by
  unfold impl_GoodMsr.f
  simp only [impl_within.ev, Option.bind_some, decide_eq_true_eq]
  by_cases h : 2 ≤ k ∧ k ≤ 4
  · have e : wrap64 (wrap64 (2 * k) - 1) = 2 * k - 1 := by unfold wrap64; omega
    simp [h, e]
  · simp [h]

theorem impl_Msr_alpha.ev {n k : Int} (h : GoodMsr n k) : impl_Msr_alpha.f n k = some (k - 1) := by
  unfold impl_Msr_alpha.f
  have e : wrap64 (k - 1) = k - 1 := by unfold wrap64; omega
  rw [e]

theorem msr_size {n k : Int} (h : GoodMsr n k) : wrap64 (k * (k - 1)) = k * (k - 1) := by
  have : k = 2 ∨ k = 3 ∨ k = 4 := by omega
  rcases this with rfl | rfl | rfl <;> (unfold wrap64; omega)
theorem impl_Msr_size.ev {n k : Int} (h : GoodMsr n k) : impl_Msr_size.f n k = some (k * (k - 1)) := by
  unfold impl_Msr_size.f
  simp only [impl_Msr_alpha.ev h, Option.bind_some, msr_size h]

theorem impl_filled.ev_l1 {E : Nat → Int → Int → Option Int} (n m : Nat) (f : Nat → Nat → Int) (hm : m ≤ 1048576) (i : Nat) (hE : ∀ j, j < m → Ev (fun k => E k (i : Int) (j : Int)) (f i j)) (out : List (List Int)) (ho : out.length < 5864062014805) {R : List (List Int)}
    (K : Ev (fun k => impl_filled.l0 E k (m : Int) (out ++ [(List.range m).map (f i)]) (n : Int) (wrap64 ((i : Int) + 1))) R) : ∀ (d j : Nat) (o : List Int), j + d = m → o = (List.range j).map (f i) →
    Ev (fun k => impl_filled.l1 E k (m : Int) out (i : Int) o (n : Int) (i : Int) (m : Int) (j : Int)) R
  | 0, j, o, hj, hoj => by
    refine Ev.step (fun k => impl_filled.l1.eq_2 _ _ _ _ _ _ _ _ _ k) ?_
    refine ev_neg (by omega) (ev_pos ho ?_)
    rw [hoj, show j = m by omega]
    exact K
  | d + 1, j, o, hj, hoj => by
    have hol : o.length = j := by rw [hoj]; simp
    refine Ev.step (fun k => impl_filled.l1.eq_2 _ _ _ _ _ _ _ _ _ k) ?_
    refine ev_pos (by omega) (ev_bind (hE j (by omega)) (ev_pos (by omega) ?_))
    rw [inc (by omega)]
    refine impl_filled.ev_l1 n m f hm i hE out ho K d (j + 1) _ (by omega) ?_
    rw [hoj, List.range_succ, List.map_append]
    rfl
theorem impl_filled.ev_l0 {E : Nat → Int → Int → Option Int} (n m : Nat) (f : Nat → Nat → Int) (hn : n ≤ 1048576) (hm : m ≤ 1048576) (hE : ∀ i, i < n → ∀ j, j < m → Ev (fun k => E k (i : Int) (j : Int)) (f i j)) : ∀ (d i : Nat) (o : List (List Int)), i + d = n → o = tab i m f →
    Ev (fun k => impl_filled.l0 E k (m : Int) o (n : Int) (i : Int)) (tab n m f)
  | 0, i, o, hi, ho => by
    refine Ev.step (fun k => impl_filled.l0.eq_2 _ _ _ _ _ k) ?_
    refine ev_neg (by omega) (ev_now ?_)
    rw [ho, show i = n by omega]
  | d + 1, i, o, hi, ho => by
    have hol : o.length = i := by rw [ho, tab_length]
    have ih := impl_filled.ev_l0 n m f hn hm hE d (i + 1) (o ++ [(List.range m).map (f i)]) (by omega) (by
      rw [ho]
      unfold tab
      rw [List.range_succ, List.map_append]
      rfl)
    refine Ev.step (fun k => impl_filled.l0.eq_2 _ _ _ _ _ k) ?_
    refine ev_pos (by omega) ?_
    exact impl_filled.ev_l1 n m f hm i (hE i (by omega)) o (by omega) (by rw [inc (by omega)]; exact ih) m 0 [] (by omega) rfl
theorem impl_filled.ev {E : Nat → Int → Int → Option Int} (n m : Nat) (f : Nat → Nat → Int) (hn : n ≤ 1048576) (hm : m ≤ 1048576) (hE : ∀ i, i < n → ∀ j, j < m → Ev (fun k => E k (i : Int) (j : Int)) (f i j)) : Ev (fun k => impl_filled.f E k (n : Int) (m : Int)) (tab n m f) := by
  unfold impl_filled.f
  exact impl_filled.ev_l0 n m f hn hm hE n 0 [] (by omega) rfl

def placeM (a : Nat) : List (List Int) := tab (2 * a) a fun r j => (plc a r j : Int)
theorem impl_Msr_places.ev {n : Int} {a : Nat} (hg : GoodMsr n ((a + 1 : Nat) : Int)) : Ev (fun k => impl_Msr_places.f k n ((a + 1 : Nat) : Int)) (placeM a) := by
  refine Ev.of (k := 60) (fun k => impl_Msr_places.mono _ _ k) ?_
  unfold impl_Msr_places.f
  rw [impl_Msr_alpha.ev hg]
  simp only [Option.bind_some]
  have h : a = 1 ∨ a = 2 ∨ a = 3 := by omega
  rcases h with rfl | rfl | rfl
  · show _ = _; kernel_rfl
  · show _ = _; kernel_rfl
  · show _ = _; kernel_rfl

theorem impl_Msr_message.ev {n : Int} {a : Nat} (hg : GoodMsr n ((a + 1 : Nat) : Int)) {D : List Int} (hl : D.length = a * (a + 1)) : Ev (fun k => impl_Msr_message.f k n ((a + 1 : Nat) : Int) D) (msgM a D) := by
  unfold impl_Msr_message.f
  refine ev_bind (impl_Msr_places.ev hg) ?_
  rw [impl_Msr_alpha.ev hg]
  simp only [Option.bind_some]
  have ha1 : 1 ≤ a := by omega
  have ha3 : a ≤ 3 := by omega
  have e1 : wrap64 (2 * (((a + 1 : Nat) : Int) - 1)) = ((2 * a : Nat) : Int) := by unfold wrap64; omega
  have e2 : (((a + 1 : Nat) : Int) - 1) = (a : Int) := by omega
  rw [e1, e2]
  refine impl_filled.ev (2 * a) a (fun r j => D.getD (plc a r j) 0) (by omega) (by omega) (fun i hi j hj => ?_)
  have hr : rd_II (placeM a) (i : Int) = (List.range a).map fun j => (plc a i j : Int) := by
    unfold rd_II
    rw [Int.toNat_natCast]
    exact tab_getD hi
  have hv : rd ((List.range a).map fun j => (plc a i j : Int)) (j : Int) = (plc a i j : Int) := by
    rw [rd_nat]
    simp [List.getD, hj]
  have hp := plc_lt ha1 ha3 hi hj
  unfold impl_Msr_message.E
  rw [hr, hv]
  refine ev_pos ⟨⟨by omega, ?_⟩, ⟨by omega, ?_⟩, by omega, by omega⟩ (ev_now (rd_nat _ _))
  · unfold placeM
    rw [tab_length]
    omega
  · rw [List.length_map, List.length_range]
    omega

theorem impl_MessageOf.ev (n k : Int) (D : List Int) : Ev (fun q => impl_MessageOf.f q n k D) (msgVal n k D) := by
  unfold impl_MessageOf.f msgVal
  simp only [impl_GoodMsr.ev, Option.bind_some, decide_eq_true_eq]
  by_cases h : GoodMsr n k
  · refine ev_pos h ?_
    obtain ⟨a, m, rfl, rfl, ha1, ha3, hm1, hm2⟩ := GoodMsr_nat h
    simp only [impl_Msr_size.ev h, Option.bind_some]
    rw [msg_size]
    by_cases c : (D.length : Int) = ((a * (a + 1) : Nat) : Int)
    · rw [if_pos ⟨h, c⟩]
      exact ev_pos c (ev_bind (impl_Msr_message.ev h (by omega)) (ev_now rfl))
    · rw [if_neg (fun z => c z.2)]
      exact ev_neg c (ev_now rfl)
  · rw [if_neg (fun z => h z.1)]
    exact ev_neg h (ev_now rfl)

theorem laws_eqByteS.ev_l0 (l : List Int) (hl : l.length < 4611686018427387904) : ∀ (n i : Nat), i + n = l.length → Ev (fun k => laws_eqByteS.l0 k l l (i : Int)) true
  | 0, i, hi => by
    refine Ev.step (fun k => laws_eqByteS.l0.eq_2 _ _ _ k) ?_
    exact ev_neg (by omega) (ev_now rfl)
  | n + 1, i, hi => by
    refine Ev.step (fun k => laws_eqByteS.l0.eq_2 _ _ _ k) ?_
    refine ev_pos (by omega) (ev_pos (by omega) (ev_pos (by omega) (ev_pos rfl ?_)))
    rw [inc (by omega)]
    exact laws_eqByteS.ev_l0 l hl n (i + 1) (by omega)
theorem laws_eqByteS.ev (l : List Int) (hl : l.length ≤ 281474976710656) : Ev (fun k => laws_eqByteS.f k l l) true := by
  unfold laws_eqByteS.f
  exact ev_pos rfl (laws_eqByteS.ev_l0 l (by omega) l.length 0 (by omega))

theorem laws_eqByteSS.ev_l0 (l : List (List Int)) (hl : rowsLe 1048576 l) : ∀ (n i : Nat), i + n = l.length → Ev (fun k => laws_eqByteSS.l0 k l l (i : Int)) true
  | 0, i, hi => by
    refine Ev.step (fun k => laws_eqByteSS.l0.eq_2 _ _ _ k) ?_
    exact ev_neg (by omega) (ev_now rfl)
  | n + 1, i, hi => by
    have h1 := hl.1
    have h2 := hl.2 _ (List.getElem_mem (show i < l.length by omega))
    refine Ev.step (fun k => laws_eqByteSS.l0.eq_2 _ _ _ k) ?_
    refine ev_pos (by omega) (ev_pos (by omega) (ev_pos (by omega) ?_))
    rw [rdSS l i (by omega), inc (by omega)]
    exact ev_bind (laws_eqByteS.ev _ (by omega)) (ev_pos rfl (laws_eqByteSS.ev_l0 l hl n (i + 1) (by omega)))
theorem laws_eqByteSS.ev (l : List (List Int)) (hl : rowsLe 1048576 l) : Ev (fun k => laws_eqByteSS.f k l l) true := by
  unfold laws_eqByteSS.f
  exact ev_pos rfl (laws_eqByteSS.ev_l0 l hl l.length 0 (by omega))

theorem laws_eqMatrix.ev (l : List (List Int)) (hl : rowsLe 1048576 l) : Ev (fun k => laws_eqMatrix.f k l l) true := by
  unfold laws_eqMatrix.f
  exact ev_bind (laws_eqByteSS.ev l hl) (ev_pos rfl (ev_now rfl))

theorem laws_markByteS.ev_l0 (a : Int) (m : Nat) (ha : 0 ≤ a) (hm : a + m < 4611686018427387904) : ∀ (n i : Nat) (o : List Int), i + n = m → o.length = m → o.take i = (markB a m).take i →
    Ev (fun k => laws_markByteS.l0 k o (a + (i : Nat)) (i : Int)) (a + (m : Nat), markB a m)
  | 0, i, o, hi, ho, ht => by
    refine Ev.step (fun k => laws_markByteS.l0.eq_2 _ _ _ k) ?_
    refine ev_neg (by omega) (ev_now ?_)
    have hb := markB_length a m
    rw [List.take_of_length_le (by omega), List.take_of_length_le (by omega)] at ht
    subst ht
    have : i = m := by omega
    rw [this]
  | n + 1, i, o, hi, ho, ht => by
    refine Ev.step (fun k => laws_markByteS.l0.eq_2 _ _ _ k) ?_
    refine ev_pos (by omega) (ev_pos (by omega) ?_)
    have e : wrap64 (a + (i : Nat) + 1) = a + ((i + 1 : Nat) : Int) := by unfold wrap64; omega
    rw [inc (by omega), e, Int.toNat_natCast]
    refine laws_markByteS.ev_l0 a m ha hm n (i + 1) _ (by omega) (by simpa using ho) ?_
    have hb := markB_length a m
    rw [take_set_succ _ _ _ (by omega), ht, List.take_succ_eq_append_getElem (by omega), markB_get]
theorem laws_markByteS.ev (l : List Int) (a : Int) (ha : 0 ≤ a) (hm : a + l.length < 4611686018427387904) : Ev (fun k => laws_markByteS.f k l a) (a + (l.length : Nat), markB a l.length) := by
  unfold laws_markByteS.f
  have := laws_markByteS.ev_l0 a l.length ha hm l.length 0 l (by omega) rfl rfl
  simpa using this

theorem laws_heldByteS.ev_l0 (a : Int) (m : Nat) (ha : 0 ≤ a) (hm : a + m < 4611686018427387904) : ∀ (n i : Nat), i + n = m →
    Ev (fun k => laws_heldByteS.l0 k (markB a m) (a + (i : Nat)) (i : Int)) (a + (m : Nat))
  | 0, i, hi => by
    have hb := markB_length a m
    refine Ev.step (fun k => laws_heldByteS.l0.eq_2 _ _ _ k) ?_
    refine ev_neg (by omega) (ev_now ?_)
    have : i = m := by omega
    rw [this]
  | n + 1, i, hi => by
    have hb := markB_length a m
    refine Ev.step (fun k => laws_heldByteS.l0.eq_2 _ _ _ k) ?_
    refine ev_pos (by omega) (ev_pos (by omega) (ev_pos (by rw [rd_get (by omega), markB_get]) ?_))
    have e : wrap64 (a + (i : Nat) + 1) = a + ((i + 1 : Nat) : Int) := by unfold wrap64; omega
    rw [inc (by omega), e]
    exact laws_heldByteS.ev_l0 a m ha hm n (i + 1) (by omega)
theorem laws_heldByteS.ev (a : Int) (m : Nat) (ha : 0 ≤ a) (hm : a + m < 4611686018427387904) : Ev (fun k => laws_heldByteS.f k (markB a m) a) (a + (m : Nat)) := by
  unfold laws_heldByteS.f
  have := laws_heldByteS.ev_l0 a m ha hm m 0 (by omega)
  simpa using this

theorem markSS_get (R : List (List Int)) : ∀ (a : Int) (i : Nat) (h : i < R.length), (markSS a R)[i]'(by rw [markSS_length]; exact h) = markB (a + (totSS (R.take i) : Nat)) (R[i]).length := by
  induction R with
  | nil => intro a i h; simp at h
  | cons r R ih =>
    intro a i h
    cases i with
    | zero => simp [markSS, totSS]
    | succ i =>
      have := ih (a + (r.length : Nat)) i (by simpa using h)
      simp only [markSS, List.getElem_cons_succ, List.take_succ_cons, totSS] at this ⊢
      rw [this]
      congr 1
      omega
theorem laws_heldByteSS.ev_l0 (R : List (List Int)) (a : Int) (ha : 0 ≤ a) (hm : a + (totSS R : Nat) < 4611686018427387904) (hl : R.length < 4611686018427387904) : ∀ (n i : Nat), i + n = R.length →
    Ev (fun k => laws_heldByteSS.l0 k (markSS a R) (a + (totSS (R.take i) : Nat)) (i : Int)) (a + (totSS R : Nat))
  | 0, i, hi => by
    have hb := markSS_length a R
    refine Ev.step (fun k => laws_heldByteSS.l0.eq_2 _ _ _ k) ?_
    refine ev_neg (by omega) (ev_now ?_)
    rw [List.take_of_length_le (by omega)]
  | n + 1, i, hi => by
    have hb := markSS_length a R
    have hlt : i < R.length := by omega
    have htake : totSS (R.take (i + 1)) = totSS (R.take i) + R[i].length := by
      rw [List.take_succ_eq_append_getElem hlt, totSS_append]; simp [totSS]
    have hle : totSS (R.take (i + 1)) ≤ totSS R := by
      have e := congrArg totSS (List.take_append_drop (i + 1) R)
      rw [totSS_append] at e
      omega
    have ih := laws_heldByteSS.ev_l0 R a ha hm hl n (i + 1) (by omega)
    rw [htake] at ih
    refine Ev.step (fun k => laws_heldByteSS.l0.eq_2 _ _ _ k) ?_
    refine ev_pos (by omega) (ev_pos (by omega) ?_)
    rw [rdSS _ i (by omega), markSS_get R a i hlt, inc (by omega)]
    refine ev_bind (laws_heldByteS.ev _ _ (by omega) (by omega)) (ev_neg (by omega) (ev_eq ?_ rfl))
    have e : a + ((totSS (R.take i) + R[i].length : Nat) : Int) = a + (totSS (R.take i) : Nat) + (R[i].length : Nat) := by omega
    rw [e] at ih
    exact ih
theorem laws_heldByteSS.ev (R : List (List Int)) (a : Int) (ha : 0 ≤ a) (hm : a + (totSS R : Nat) < 4611686018427387904) (hl : R.length < 4611686018427387904) : Ev (fun k => laws_heldByteSS.f k (markSS a R) a) (a + (totSS R : Nat)) := by
  unfold laws_heldByteSS.f
  have := laws_heldByteSS.ev_l0 R a ha hm hl R.length 0 (by omega)
  simpa [totSS] using this

theorem laws_heldMatrix.ev (R : List (List Int)) (a : Int) (ha : 0 ≤ a) (hm : a + (totSS R : Nat) < 4611686018427387904) (hl : R.length < 4611686018427387904) : Ev (fun k => laws_heldMatrix.f k (markSS a R) a) (a + (totSS R : Nat)) := by
  unfold laws_heldMatrix.f
  exact ev_bind (laws_heldByteSS.ev R a ha hm hl) (ev_neg (by omega) (ev_now rfl))

theorem msgVal_rows (n k : Int) (D : List Int) : rowsLe 16 (msgVal n k D).1 := by
  unfold msgVal
  split
  · rename_i h
    obtain ⟨⟨⟨h1, h2⟩, h3, h4⟩, _⟩ := h
    exact tab_rows _ (by omega) (by omega)
  · exact nil_rows 16
theorem FnExactMessageOf : ∀ (n k : Int) (l : List Int), ((Lit.int .i64 n).wf = true ∧ (Lit.int .i64 k).wf = true) → (l.length ≤ maxLen ∧ ∀ x ∈ l, (Lit.int .u8 x).wf = true) → laws_FnExactMessageOf.Facts n k l := by
  intro n k l _ hl
  by_cases c1 : 1048576 < (l.length : Int)
  · exact .inl c1
  · have hz := msgVal_rows n k l
    have hs := spec_MessageOf.ev n k l
    have hi := impl_MessageOf.ev n k l
    have hr : rowsLe 1048576 (msgVal n k l).1 := ⟨by have := hz.1; omega, fun r hr => by have := hz.2 r hr; omega⟩
    have ht := totSS_small (by decide) hz
    refine .inr ⟨l, (msgVal n k l).1, (msgVal n k l).2, c1, by simp only [laws_toMsr.ev], Ev.rounds (laws_toByteS.ev l (by omega)), ?_⟩
    generalize msgVal n k l = v at *
    obtain ⟨R, b⟩ := v
    dsimp only at *
    exact ⟨Ev.rounds hs, Ev.rounds hi, Ev.rounds (laws_eqMatrix.ev R hr), Ev.rounds (laws_eqByteS.ev l (by omega)), Ev.rounds (laws_heldMatrix.ev R 1 (by decide) (by omega) (by omega)),
      fun l a h1 h2 => Ev.rounds (laws_markByteS.ev l a h1 h2), by omega, ht⟩

end Go.Proofs.Yteflgifmdojahaa.Pure
