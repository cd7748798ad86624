/- The given program's SplitText returns what the reference's SplitText returns, for all texts and numbers, and keeps to itself what it was given and what it returns; there is no condition. -/
import Derived.Test.YtelkciakdhiicaaPFnExactSplitTextx
import Derived.Test.YtelkciakdhiicaaKit
import Derived.Test.YtelkciakdhiicaaTxt
namespace Go.Proofs.Ytelkciakdhiicaa.Pure
open Go.RowKit Go.Proofs.Ytelkciakdhiicaa.PFnExactSplitText Go.Proofs.YtelkciakdhiicaaW.PrintWords Go.Proofs.YtelkciakdhiicaaW.PrintLast Go.Proofs.Ytelkciakdhiicaa.Gf Go.Proofs.Ytelkciakdhiicaa.Kit Go.Proofs.Ytelkciakdhiicaa.KitW
set_option linter.unusedVariables false
set_option linter.unusedSimpArgs false

theorem laws_eqStringS.ev_l0 (l : List ByteArray) (hl : l.length < 4611686018427387904) : ∀ (n i : Nat), i + n = l.length → Ev (fun k => laws_eqStringS.l0 k l l (i : Int)) true
  | 0, i, hi => by
    refine Ev.step (fun k => laws_eqStringS.l0.eq_2 _ _ _ k) ?_
    exact ev_neg (by omega) (ev_now rfl)
  | n + 1, i, hi => by
    refine Ev.step (fun k => laws_eqStringS.l0.eq_2 _ _ _ k) ?_
    refine ev_pos (by omega) (ev_pos (by omega) (ev_pos (by omega) (ev_pos rfl ?_)))
    rw [inc (by omega)]
    exact laws_eqStringS.ev_l0 l hl n (i + 1) (by omega)
theorem laws_eqStringS.ev (l : List ByteArray) (hl : l.length ≤ 281474976710656) : Ev (fun k => laws_eqStringS.f k l l) true := by
  unfold laws_eqStringS.f
  exact ev_pos rfl (laws_eqStringS.ev_l0 l (by omega) l.length 0 (by omega))

theorem spec_l1In.ev (a b c : Int) : spec_l1In.f a b c = some (decide (b ≤ a ∧ a ≤ c)) := by
  unfold spec_l1In.f
  by_cases h : a ≥ b
  · rw [if_pos h]; simp [h]
  · rw [if_neg h]; simp; omega

def pieceN (a K : Nat) : Nat := (a + K - 1) / K
theorem pieceN_le {a K : Nat} (hK : 1 ≤ K) (ha : a ≤ 1000) (hK2 : K ≤ 8) : a ≤ K * pieceN a K ∧ K * pieceN a K ≤ 1007 ∧ pieceN a K ≤ 1007 := by
  unfold pieceN
  have h1 := Nat.div_add_mod (a + K - 1) K
  have h2 := Nat.mod_lt (a + K - 1) (show K > 0 by omega)
  have h3 := Nat.mul_le_mul hK (Nat.le_refl ((a + K - 1) / K))
  omega
theorem piece_wrap {a K : Nat} (hK : 1 ≤ K) (ha : a ≤ 1000) (hK2 : K ≤ 8) : wrap64 (Int.tdiv (wrap64 ((wrap64 ((a : Int) + (K : Int))) - 1)) (K : Int)) = ((pieceN a K : Nat) : Int) := by
  have h := pieceN_le hK ha hK2
  rw [show wrap64 ((a : Int) + (K : Int)) = (a : Int) + (K : Int) from wrap_id (by omega) (by omega), show wrap64 ((a : Int) + (K : Int) - 1) = ((a + K - 1 : Nat) : Int) by rw [wrap_id (by omega) (by omega)]; omega]
  rw [show Int.tdiv ((a + K - 1 : Nat) : Int) (K : Int) = ((pieceN a K : Nat) : Int) from rfl]
  exact wrap_id (by omega) (by omega)
theorem wmul {a b : Nat} (ha : a ≤ 1048576) (hb : b ≤ 1048576) : wrap64 ((a : Int) * (b : Int)) = ((a * b : Nat) : Int) := by
  have := Nat.mul_le_mul ha hb
  rw [← Int.natCast_mul]
  exact wrap_id (by omega) (by omega)
def cutT (t : ByteArray) (n K : Nat) : List ByteArray := genT K fun i => t.extract (i * n) ((i + 1) * n)
def padT (s : ByteArray) (K : Nat) : ByteArray := s ++ strOfNums (List.replicate (K * pieceN s.size K - s.size) 0)
theorem padT_size {s : ByteArray} {K : Nat} (hK : 1 ≤ K) (ha : s.size ≤ 1000) (hK2 : K ≤ 8) : (padT s K).size = K * pieceN s.size K := by
  have h := pieceN_le hK ha hK2
  unfold padT
  rw [ByteArray.size_append, strOfNums_size, List.length_replicate]
  omega
theorem spec_l3Split.ev_l0 (t : ByteArray) (n K : Nat) (ht : t.size = K * n) (hn : n ≤ 1007) (hK : K ≤ 8) : ∀ (d i : Nat), i + d = K →
    Ev (fun k => spec_l3Split.l0 k t (K : Int) (n : Int) ((cutT t n K).take i) (i : Int)) (cutT t n K)
  | 0, i, hi => by
    have hz : (cutT t n K).length = K := genT_length _ _
    refine Ev.step (fun k => spec_l3Split.l0.eq_2 _ _ _ _ _ k) ?_
    refine ev_neg (by omega) (ev_now ?_)
    rw [List.take_of_length_le (by omega)]
  | d + 1, i, hi => by
    have hz : (cutT t n K).length = K := genT_length _ _
    have h1 : i * n ≤ (i + 1) * n := Nat.mul_le_mul_right n (by omega)
    have h2 : (i + 1) * n ≤ K * n := Nat.mul_le_mul_right n (by omega)
    refine Ev.step (fun k => spec_l3Split.l0.eq_2 _ _ _ _ _ k) ?_
    rw [inc (by omega), wmul (by omega) (by omega), wmul (by omega) (by omega), Int.toNat_natCast, Int.toNat_natCast]
    refine ev_pos (by omega) (ev_pos (by omega) (ev_pos (by omega) (ev_pos (by rw [ht]; omega) (ev_pos (by rw [List.length_take]; omega) ?_))))
    rw [show (cutT t n K).take i ++ [t.extract (i * n) ((i + 1) * n)] = (cutT t n K).take (i + 1) from (genT_succ (g := fun i => t.extract (i * n) ((i + 1) * n)) (show i < K by omega)).symm ▸ rfl]
    exact spec_l3Split.ev_l0 t n K ht hn hK d (i + 1) (by omega)
theorem spec_l3Split.ev {s : ByteArray} {K : Nat} (hK : 1 ≤ K) (ha : s.size ≤ 1000) (hK2 : K ≤ 8) : Ev (fun k => spec_l3Split.f k s (K : Int)) (cutT (padT s K) (pieceN s.size K) K) := by
  have h := pieceN_le hK ha hK2
  unfold spec_l3Split.f
  rw [piece_wrap hK ha hK2, wmul (by omega) (by omega), show wrap64 (((K * pieceN s.size K : Nat) : Int) - (s.size : Int)) = ((K * pieceN s.size K - s.size : Nat) : Int) by rw [wrap_id (by omega) (by omega)]; omega]
  simp only [Int.toNat_natCast, Option.bind_some]
  refine ev_neg (by omega) (ev_pos (by omega) (ev_pos (by omega) (ev_pos (by rw [strOfNums_size, List.length_replicate]; omega) ?_)))
  exact spec_l3Split.ev_l0 (padT s K) (pieceN s.size K) K (padT_size hK ha hK2) h.2.2 hK2 K 0 (by omega)

def splitVal (s : ByteArray) (k : Int) : List ByteArray × Bool := if (1 ≤ k ∧ k ≤ 8) ∧ (s.size : Int) ≤ k * 40 then (cutT (padT s k.toNat) (pieceN s.size k.toNat) k.toNat, true) else ([], false)
theorem splitVal_len (s : ByteArray) (k : Int) : (splitVal s k).1.length ≤ 8 := by
  unfold splitVal
  split
  · rename_i h
    show (cutT _ _ _).length ≤ 8
    unfold cutT
    rw [genT_length]
    omega
  · simp
theorem spec_SplitText.ev (s : ByteArray) (k : Int) : Ev (fun n => spec_SplitText.f n s k) (splitVal s k) := by
  unfold spec_SplitText.f splitVal
  simp only [spec_l1In.ev, Option.bind_some, decide_eq_true_eq]
  by_cases c1 : 1 ≤ k ∧ k ≤ 8
  · refine ev_pos c1 ?_
    rw [show wrap64 (k * 40) = k * 40 from wrap_id (by omega) (by omega)]
    by_cases c2 : (s.size : Int) ≤ k * 40
    · refine ev_neg (by omega) ?_
      obtain ⟨K, rfl⟩ := Int.eq_ofNat_of_zero_le (show 0 ≤ k by omega)
      rw [if_pos ⟨c1, c2⟩, Int.toNat_natCast]
      exact ev_bind (spec_l3Split.ev (by omega) (by omega) (by omega)) (ev_now rfl)
    · refine ev_pos (by omega) (ev_now ?_)
      rw [if_neg (fun z => c2 z.2)]
  · refine ev_neg c1 (ev_now ?_)
    rw [if_neg (fun z => c1 z.1)]

theorem impl_within.ev (a b c : Int) : impl_within.f a b c = some (decide (b ≤ a ∧ a ≤ c)) := by
  unfold impl_within.f
  by_cases h : a ≥ b
  · rw [if_pos h]; simp [h]
  · rw [if_neg h]; simp; omega

theorem repeat_zero : ∀ c : Nat, Go.Lib.repeatL [0] c = (List.replicate c (0 : Int)).map fun n => UInt8.ofNat n.toNat
  | 0 => rfl
  | c + 1 => by
    unfold Go.Lib.repeatL
    rw [repeat_zero c, List.replicate_succ, List.map_cons]
    rfl
theorem strings_Repeat.ev {c : Nat} (h : c ≤ 1000000) : strings_Repeat.f ⟨#[0]⟩ (c : Int) = some (strOfNums (List.replicate c 0)) := by
  unfold strings_Repeat.f
  have e : ByteArray.size ⟨#[0]⟩ = 1 := rfl
  rw [Int.toNat_natCast, if_pos (by rw [e]; omega)]
  exact congrArg (fun l : List UInt8 => some (ByteArray.mk l.toArray)) (repeat_zero c)

theorem impl_SplitText.ev_l0 (t : ByteArray) (n K : Nat) (ht : t.size = K * n) (hn : n ≤ 1007) (hK : K ≤ 8) : ∀ (d i : Nat), i + d = K →
    Ev (fun k => impl_SplitText.l0 k t (n : Int) ((cutT t n K).take i) (K : Int) (i : Int)) (cutT t n K, true)
  | 0, i, hi => by
    have hz : (cutT t n K).length = K := genT_length _ _
    refine Ev.step (fun k => impl_SplitText.l0.eq_2 _ _ _ _ _ k) ?_
    refine ev_neg (by omega) (ev_now ?_)
    rw [List.take_of_length_le (by omega)]
  | d + 1, i, hi => by
    have hz : (cutT t n K).length = K := genT_length _ _
    have h1 : i * n ≤ (i + 1) * n := Nat.mul_le_mul_right n (by omega)
    have h2 : (i + 1) * n ≤ K * n := Nat.mul_le_mul_right n (by omega)
    refine Ev.step (fun k => impl_SplitText.l0.eq_2 _ _ _ _ _ k) ?_
    rw [inc (by omega), wmul (by omega) (by omega), wmul (by omega) (by omega), Int.toNat_natCast, Int.toNat_natCast]
    refine ev_pos (by omega) (ev_pos (by omega) (ev_pos (by omega) (ev_pos (by rw [ht]; omega) (ev_pos (by rw [List.length_take]; omega) ?_))))
    rw [show (cutT t n K).take i ++ [t.extract (i * n) ((i + 1) * n)] = (cutT t n K).take (i + 1) from (genT_succ (g := fun i => t.extract (i * n) ((i + 1) * n)) (show i < K by omega)).symm ▸ rfl]
    exact impl_SplitText.ev_l0 t n K ht hn hK d (i + 1) (by omega)
theorem impl_SplitText.ev (s : ByteArray) (k : Int) : Ev (fun n => impl_SplitText.f n s k) (splitVal s k) := by
  unfold impl_SplitText.f splitVal
  simp only [impl_within.ev, Option.bind_some, decide_eq_true_eq]
  have hno : ∀ c : Prop, [Decidable c] → ¬ c → Ev (fun n => impl_SplitText.j0 n s k true) (if c then (cutT (padT s k.toNat) (pieceN s.size k.toNat) k.toNat, true) else ([], false)) := fun c _ hc => by
    refine Ev.step (fun k => impl_SplitText.j0.eq_2 _ _ _ k) ?_
    exact ev_pos rfl (ev_now (if_neg hc).symm)
  by_cases c1 : 1 ≤ k ∧ k ≤ 8
  · refine ev_pos c1 ?_
    rw [show wrap64 (k * 40) = k * 40 from wrap_id (by omega) (by omega)]
    by_cases c2 : (s.size : Int) ≤ k * 40
    · rw [decide_eq_false (show ¬ (s.size : Int) > k * 40 by omega)]
      refine Ev.step (fun k => impl_SplitText.j0.eq_2 _ _ _ k) ?_
      obtain ⟨K, rfl⟩ := Int.eq_ofNat_of_zero_le (show 0 ≤ k by omega)
      have hK : 1 ≤ K := by omega
      have ha : s.size ≤ 1000 := by omega
      have hK2 : K ≤ 8 := by omega
      have h := pieceN_le hK ha hK2
      rw [if_pos (show (1 ≤ (K : Int) ∧ (K : Int) ≤ 8) ∧ (s.size : Int) ≤ (K : Int) * 40 from ⟨c1, c2⟩)]
      refine ev_neg (by simp) (ev_neg (by omega) ?_)
      rw [piece_wrap hK ha hK2, wmul (by omega) (by omega), show wrap64 (((pieceN s.size K * K : Nat) : Int) - (s.size : Int)) = ((K * pieceN s.size K - s.size : Nat) : Int) by rw [Nat.mul_comm, wrap_id (by omega) (by omega)]; omega, strings_Repeat.ev (by omega), Int.toNat_natCast]
      simp only [Option.bind_some]
      refine ev_pos (by rw [strOfNums_size, List.length_replicate]; omega) ?_
      exact impl_SplitText.ev_l0 (padT s K) (pieceN s.size K) K (padT_size hK ha hK2) h.2.2 hK2 K 0 (by omega)
    · rw [decide_eq_true (show (s.size : Int) > k * 40 by omega)]
      exact hno _ (fun z => c2 z.2)
  · exact ev_neg c1 (hno _ (fun z => c1 z.1))

theorem laws_markText.ev_l0 : ∀ (f x : Nat) (s : List Int), x < 10 ^ f → x < 4611686018427387904 → s.length + f ≤ 1000 → Ev (fun k => laws_markText.l0 k (x : Int) (strOfNums s)) (strOfNums (mtl f x s))
  | 0, x, s, h, h2, hs => by
    have e : x = 0 := by omega
    subst e
    refine Ev.step (fun k => laws_markText.l0.eq_2 _ _ k) ?_
    refine ev_neg (by omega) (ev_pos (by rw [strOfNums_size]; omega) (ev_now ?_))
    exact str_append [109] s
  | f + 1, x, s, h, h2, hs => by
    unfold mtl
    by_cases e : x = 0
    · rw [if_pos e]
      subst e
      refine Ev.step (fun k => laws_markText.l0.eq_2 _ _ k) ?_
      refine ev_neg (by omega) (ev_pos (by rw [strOfNums_size]; omega) (ev_now ?_))
      exact str_append [109] s
    · rw [if_neg e]
      refine Ev.step (fun k => laws_markText.l0.eq_2 _ _ k) ?_
      refine ev_pos (by omega) ?_
      simp only [Option.bind_some]
      have e1 : Int.tmod (x : Int) 10 = ((x % 10 : Nat) : Int) := by rw [Int.tmod_eq_emod_of_nonneg (by omega)]; omega
      have e2 : Int.tdiv (x : Int) 10 = ((x / 10 : Nat) : Int) := by rw [Int.tdiv_eq_ediv_of_nonneg (by omega)]; omega
      have e3 : (wrap64 (48 + ((x % 10 : Nat) : Int))) % 256 = 48 + ((x % 10 : Nat) : Int) := by unfold wrap64; omega
      have e4 : wrap64 ((x / 10 : Nat) : Int) = ((x / 10 : Nat) : Int) := by unfold wrap64; omega
      rw [e1, e2, e3, e4]
      refine ev_pos (by rw [strOfNums_size, strOfNums_size, List.length_singleton]; omega) ?_
      rw [str_append]
      exact laws_markText.ev_l0 f (x / 10) _ (by rw [Nat.pow_succ] at h; omega) (by omega) (by simp only [List.singleton_append, List.length_cons]; omega)
theorem laws_markText.ev (a : Int) (h : a < 4611686018427387904) : Ev (fun k => laws_markText.f k a) (mtx a) := by
  unfold laws_markText.f mtx
  by_cases c : a ≤ 0
  · rw [if_pos c]; exact ev_pos c (ev_now rfl)
  · rw [if_neg c]
    refine ev_neg c ?_
    obtain ⟨x, rfl⟩ := Int.eq_ofNat_of_zero_le (show 0 ≤ a by omega)
    rw [Int.toNat_natCast]
    exact laws_markText.ev_l0 20 x [] (by omega) (by omega) (by simp)

theorem laws_markStringS.ev_l0 (a : Int) (m : Nat) (ha : 0 ≤ a) (hm : a + m < 4611686018427387904) : ∀ (n i : Nat) (o : List ByteArray), i + n = m → o.length = m → o.take i = (markTS a m).take i →
    Ev (fun k => laws_markStringS.l0 k o (a + (i : Nat)) (i : Int)) (a + (m : Nat), markTS a m)
  | 0, i, o, hi, ho, ht => by
    refine Ev.step (fun k => laws_markStringS.l0.eq_2 _ _ _ k) ?_
    refine ev_neg (by omega) (ev_now ?_)
    have hb := markTS_length a m
    rw [List.take_of_length_le (by omega), List.take_of_length_le (by omega)] at ht
    subst ht
    have : i = m := by omega
    rw [this]
  | n + 1, i, o, hi, ho, ht => by
    refine Ev.step (fun k => laws_markStringS.l0.eq_2 _ _ _ k) ?_
    refine ev_pos (by omega) (ev_bind (laws_markText.ev _ (by omega)) (ev_pos (by omega) ?_))
    have e : wrap64 (a + (i : Nat) + 1) = a + ((i + 1 : Nat) : Int) := by unfold wrap64; omega
    rw [e, inc (by omega), Int.toNat_natCast]
    refine laws_markStringS.ev_l0 a m ha hm n (i + 1) _ (by omega) (by simpa using ho) ?_
    have hb := markTS_length a m
    rw [take_set_T _ _ _ (by omega), ht, List.take_succ_eq_append_getElem (by omega)]
    simp [markTS]
theorem laws_markStringS.ev (l : List ByteArray) (a : Int) (ha : 0 ≤ a) (hm : a + l.length < 4611686018427387904) : Ev (fun k => laws_markStringS.f k l a) (a + (l.length : Nat), markTS a l.length) := by
  unfold laws_markStringS.f
  have := laws_markStringS.ev_l0 a l.length ha hm l.length 0 l (by omega) rfl rfl
  simpa using this

theorem laws_heldStringS.ev_l0 (a : Int) (m : Nat) (ha : 0 ≤ a) (hm : a + m < 4611686018427387904) : ∀ (n i : Nat), i + n = m →
    Ev (fun k => laws_heldStringS.l0 k (markTS a m) (a + (i : Nat)) (i : Int)) (a + (m : Nat))
  | 0, i, hi => by
    have hb := markTS_length a m
    refine Ev.step (fun k => laws_heldStringS.l0.eq_2 _ _ _ k) ?_
    refine ev_neg (by omega) (ev_now ?_)
    have : i = m := by omega
    rw [this]
  | n + 1, i, hi => by
    have hb := markTS_length a m
    refine Ev.step (fun k => laws_heldStringS.l0.eq_2 _ _ _ k) ?_
    have e : wrap64 (a + (i : Nat) + 1) = a + ((i + 1 : Nat) : Int) := by unfold wrap64; omega
    rw [rdOf_nat, markTS_get _ _ _ (by omega), e, inc (by omega)]
    refine ev_pos (by omega) (ev_pos (by omega) (ev_bind (laws_markText.ev _ (by omega)) (ev_pos rfl ?_)))
    exact laws_heldStringS.ev_l0 a m ha hm n (i + 1) (by omega)
theorem laws_heldStringS.ev (a : Int) (m : Nat) (ha : 0 ≤ a) (hm : a + m < 4611686018427387904) : Ev (fun k => laws_heldStringS.f k (markTS a m) a) (a + (m : Nat)) := by
  unfold laws_heldStringS.f
  have := laws_heldStringS.ev_l0 a m ha hm m 0 (by omega)
  simpa using this

theorem FnExactSplitText : ∀ (s : ByteArray) (n : Int), ByteArray.size s ≤ maxLen → (Lit.int .i64 n).wf = true → ∃ k, laws_FnExactSplitText.f k s n = some true := by
  intro s n _ _
  refine Ev.rounds ?_
  unfold laws_FnExactSplitText.f
  by_cases hz : (s.size : Int) > 1048576
  · exact ev_pos hz (ev_now rfl)
  · refine ev_neg hz ?_
    have hs := spec_SplitText.ev s n
    have hi := impl_SplitText.ev s n
    have hz := splitVal_len s n
    generalize splitVal s n = rb at hs hi hz
    obtain ⟨r, b⟩ := rb
    have hz2 : r.length ≤ 8 := hz
    repeat first
      | exact ev_now rfl
      | refine ev_bind hs ?_
      | refine ev_bind hi ?_
      | refine ev_bind (laws_eqStringS.ev _ (by omega)) ?_
      | refine ev_bind (laws_markStringS.ev _ _ (by omega) (by omega)) ?_
      | refine ev_bind (laws_heldStringS.ev _ _ (by omega) (by omega)) ?_
      | refine Ev.step (fun k => laws_FnExactSplitText.j0.eq_2 _ _ _ _ _ _ k) ?_
      | refine Ev.step (fun k => laws_FnExactSplitText.j1.eq_2 _ _ _ k) ?_
      | refine ev_pos rfl ?_
      | (refine ev_neg ?hc ?_; (case hc => first | omega | (simp; done) | (simp; omega)))
      | (refine ev_pos ?hc ?_; (case hc => first | omega | (simp; done)))

end Go.Proofs.Ytelkciakdhiicaa.Pure
