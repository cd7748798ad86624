/- The given program's JoinShards returns what the reference's JoinShards returns, for all texts and sizes, and leaves the texts as they were; there is no condition. -/
import Derived.Test.YtelkciakdhiicaaPFnExactJoinShardsx
import Derived.Test.YtelkciakdhiicaaKit
import Derived.Test.YtelkciakdhiicaaTxt
namespace Go.Proofs.Ytelkciakdhiicaa.Pure
open Go.RowKit Go.Proofs.Ytelkciakdhiicaa.PFnExactJoinShards Go.Proofs.YtelkciakdhiicaaW.PrintWords Go.Proofs.YtelkciakdhiicaaW.PrintLast Go.Proofs.Ytelkciakdhiicaa.Gf Go.Proofs.Ytelkciakdhiicaa.Kit Go.Proofs.Ytelkciakdhiicaa.KitW
set_option linter.unusedVariables false
set_option linter.unusedSimpArgs false

theorem laws_szStringS.ev_l0 (l : List ByteArray) (hl : l.length ≤ 1048576) (hr : ∀ r ∈ l, r.size ≤ maxLen) : ∀ (n i : Nat) (t : Int), i + n = l.length → 0 ≤ t → t ≤ 1048576 →
    Ev (fun k => laws_szStringS.l0 k l t (i : Int)) (if (totT (l.drop i) : Int) ≤ t then t - (totT (l.drop i) : Int) else -1)
  | 0, i, t, hi, h0, h1 => by
    refine Ev.step (fun k => laws_szStringS.l0.eq_2 _ _ _ k) ?_
    refine ev_neg (by omega) (ev_now ?_)
    rw [List.drop_of_length_le (by omega)]
    simp [totT, h0]
  | n + 1, i, t, hi, h0, h1 => by
    have hlt : i < l.length := by omega
    have hm : i < 4611686018427387904 := by omega
    have he : totT (l.drop i) = l[i].size + totT (l.drop (i + 1)) := by rw [List.drop_eq_getElem_cons hlt]; rfl
    have hb := hr _ (List.getElem_mem hlt)
    unfold maxLen at hb
    have hw : wrap64 (t - (l[i].size : Int)) = t - (l[i].size : Int) := by unfold wrap64; omega
    refine Ev.step (fun k => laws_szStringS.l0.eq_2 _ _ _ k) ?_
    refine ev_pos (by omega) (ev_pos (by omega) ?_)
    rw [rdOf_nat, txt_get hlt, he, hw]
    by_cases h : (l[i].size : Int) ≤ t
    · refine ev_neg (by omega) ?_
      rw [inc hm]
      refine ev_eq (laws_szStringS.ev_l0 l hl hr n (i + 1) (t - (l[i].size : Int)) (by omega) (by omega) (by omega)) ?_
      by_cases h2 : (totT (l.drop (i + 1)) : Int) ≤ t - (l[i].size : Int)
      · rw [if_pos h2, if_pos (by omega)]; omega
      · rw [if_neg h2, if_neg (by omega)]
    · refine ev_pos (by omega) (ev_now ?_)
      rw [if_neg (by omega)]
theorem laws_szStringS.ev (l : List ByteArray) (hl : l.length ≤ maxLen) (hr : ∀ r ∈ l, r.size ≤ maxLen) (t : Int) (h0 : 0 ≤ t) (h1 : t ≤ 1048576) :
    Ev (fun k => laws_szStringS.f k l t) (if (l.length : Int) + (totT l : Int) ≤ t then t - (l.length : Int) - (totT l : Int) else -1) := by
  unfold laws_szStringS.f
  have e : wrap64 (t - (l.length : Int)) = t - (l.length : Int) := by unfold maxLen at hl; unfold wrap64; omega
  rw [e]
  by_cases h : (l.length : Int) ≤ t
  · refine ev_neg (by omega) (ev_eq (laws_szStringS.ev_l0 l (by omega) hr l.length 0 _ (by omega) (by omega) (by omega)) ?_)
    rw [List.drop_zero]
    by_cases h2 : (totT l : Int) ≤ t - (l.length : Int)
    · rw [if_pos h2, if_pos (by omega)]
    · rw [if_neg h2, if_neg (by omega)]
  · refine ev_pos (by omega) (ev_now ?_)
    rw [if_neg (by omega)]

theorem spec_l1In.ev (a b c : Int) : spec_l1In.f a b c = some (decide (b ≤ a ∧ a ≤ c)) := by
  unfold spec_l1In.f
  by_cases h : a ≥ b
  · rw [if_pos h]; simp [h]
  · rw [if_neg h]; simp; omega

theorem spec_l3Texts.ev_l0 (l : List ByteArray) (hl : l.length < 4611686018427387904) : ∀ (d i : Nat), i + d = l.length → Ev (fun k => spec_l3Texts.l0 k l l (l.length : Int) (i : Int)) (!((List.range d).any fun t => badT l (i + t)))
  | 0, i, hi => by
    refine Ev.step (fun k => spec_l3Texts.l0.eq_2 _ _ _ _ k) ?_
    exact ev_neg (by omega) (ev_now rfl)
  | d + 1, i, hi => by
    refine Ev.step (fun k => spec_l3Texts.l0.eq_2 _ _ _ _ k) ?_
    simp only [rdOf_nat, rdOf_zero]
    refine ev_pos (by omega) (ev_pos (by omega) (ev_pos (by omega) (ev_pos (by omega) ?_)))
    have ha : ((List.range (d + 1)).any fun t => badT l (i + t)) = (badT l i || (List.range d).any fun t => badT l (i + 1 + t)) := by
      rw [List.range_succ_eq_map, List.any_cons, List.any_map, Nat.add_zero]
      congr 2
      funext t
      simp only [Function.comp_apply]
      rw [show i + (t + 1) = i + 1 + t by omega]
    rw [ha]
    by_cases h1 : (txt l i).size = (txt l 0).size
    · refine ev_pos (by omega) ?_
      by_cases h2 : (txt l i).size > 40
      · refine ev_pos (by omega) (ev_now ?_)
        have : badT l i = true := by unfold badT; rw [decide_eq_true (by omega), Bool.true_or]
        rw [this]; rfl
      · refine ev_neg (by omega) ?_
        have : badT l i = false := by unfold badT; rw [decide_eq_false (by omega), h1]; simp
        rw [this, Bool.false_or, inc (by omega)]
        exact spec_l3Texts.ev_l0 l hl d (i + 1) (by omega)
    · refine ev_neg (by omega) (ev_now ?_)
      have : badT l i = true := by unfold badT; rw [bne_iff_ne.2 h1, Bool.or_true]
      rw [this]; rfl
theorem spec_l3Texts.ev (l : List ByteArray) (hl : l.length < 4611686018427387904) : Ev (fun k => spec_l3Texts.f k l) (textsOk l) := by
  unfold spec_l3Texts.f
  have := spec_l3Texts.ev_l0 l hl l.length 0 (by omega)
  rw [textsOk_bad]
  simpa using this

/-- The texts, one behind another. -/
def catT (l : List ByteArray) : ByteArray := ⟨((l.map (·.data.toList)).flatten).toArray⟩
theorem catT_succ (l : List ByteArray) {i : Nat} (h : i < l.length) : catT (l.take i) ++ txt l i = catT (l.take (i + 1)) := by
  rw [List.take_succ_eq_append_getElem h, txt_get h]
  apply ByteArray.ext
  unfold catT
  rw [ByteArray.data_append]
  apply Array.ext'
  simp only [List.map_append, List.map_cons, List.map_nil, List.flatten_append, List.flatten_cons, List.flatten_nil, List.append_nil, Array.toList_append]
theorem catT_size {l : List ByteArray} (h : ∀ s ∈ l, s.size ≤ 40) : (catT l).size ≤ 40 * l.length := by
  have e : (catT l).size = ((l.map (·.data.toList)).flatten).length := rfl
  rw [e]
  clear e
  induction l with
  | nil => simp
  | cons x r ih =>
    have hx := h x (List.mem_cons_self ..)
    have hr := ih (fun s hs => h s (List.mem_cons_of_mem _ hs))
    rw [List.map_cons, List.flatten_cons, List.length_append, List.length_cons]
    have ex : x.data.toList.length = x.size := rfl
    omega
def joinVal (l : List ByteArray) (n : Int) : ByteArray × Bool := if ((1 ≤ (l.length : Int) ∧ (l.length : Int) ≤ 8) ∧ textsOk l = true) ∧ (0 ≤ n ∧ n ≤ ((catT l).size : Int)) then ((catT l).extract 0 n.toNat, true) else (⟨#[]⟩, false)
theorem spec_JoinShards.ev_l0 (l : List ByteArray) (n : Int) (hs : ∀ s ∈ l, s.size ≤ 40) (hl : l.length ≤ 8) : ∀ (d i : Nat), i + d = l.length →
    Ev (fun k => spec_JoinShards.l0 k n (catT (l.take i)) l (l.length : Int) (i : Int)) (if 0 ≤ n ∧ n ≤ ((catT l).size : Int) then ((catT l).extract 0 n.toNat, true) else (⟨#[]⟩, false))
  | 0, i, hi => by
    refine Ev.step (fun k => spec_JoinShards.l0.eq_2 _ _ _ _ _ k) ?_
    refine ev_neg (by omega) ?_
    rw [List.take_of_length_le (by omega)]
    simp only [spec_l1In.ev, Option.bind_some, decide_eq_true_eq]
    by_cases c : 0 ≤ n ∧ n ≤ ((catT l).size : Int)
    · exact ev_pos c (ev_pos c.1 (ev_pos c.2 (ev_now (if_pos c).symm)))
    · exact ev_neg c (ev_now (if_neg c).symm)
  | d + 1, i, hi => by
    refine Ev.step (fun k => spec_JoinShards.l0.eq_2 _ _ _ _ _ k) ?_
    have hz := catT_size (l := l.take i) (fun s h => hs s (List.mem_of_mem_take h))
    rw [List.length_take] at hz
    have hx : (txt l i).size ≤ 40 := by
      rw [txt_get (show i < l.length by omega)]
      exact hs _ (List.getElem_mem _)
    simp only [rdOf_nat]
    refine ev_pos (by omega) (ev_pos (by omega) (ev_pos (by omega) (ev_pos (by omega) ?_)))
    rw [inc (by omega), catT_succ l (by omega)]
    exact spec_JoinShards.ev_l0 l n hs hl d (i + 1) (by omega)
theorem spec_JoinShards.ev {l : List ByteArray} (hl : textsLe 1048576 l) (n : Int) : Ev (fun k => spec_JoinShards.f k l n) (joinVal l n) := by
  unfold spec_JoinShards.f joinVal
  have h0 := hl.1
  have hno : ∀ c : Prop, [Decidable c] → ¬ c → Ev (fun k => spec_JoinShards.j0 k l n true) (if c then ((catT l).extract 0 n.toNat, true) else (⟨#[]⟩, false)) := fun c _ hc => by
    refine Ev.step (fun k => spec_JoinShards.j0.eq_2 _ _ _ k) ?_
    exact ev_pos rfl (ev_now (if_neg hc).symm)
  simp only [spec_l1In.ev, Option.bind_some, decide_eq_true_eq]
  by_cases c1 : 1 ≤ (l.length : Int) ∧ (l.length : Int) ≤ 8
  · refine ev_pos c1 (ev_bind (spec_l3Texts.ev l (by omega)) ?_)
    by_cases c2 : textsOk l = true
    · rw [c2]
      refine Ev.step (fun k => spec_JoinShards.j0.eq_2 _ _ _ k) ?_
      refine ev_neg (by simp) ?_
      refine ev_eq (spec_JoinShards.ev_l0 l n (fun s h => (textsOk_mem c2 s h).2) (by omega) l.length 0 (by omega)) ?_
      by_cases c3 : 0 ≤ n ∧ n ≤ ((catT l).size : Int)
      · rw [if_pos c3, if_pos ⟨⟨c1, rfl⟩, c3⟩]
      · rw [if_neg c3, if_neg (fun z => c3 z.2)]
    · rw [Bool.eq_false_iff.mpr c2]
      exact hno _ (fun z => by cases z.1.2)
  · exact ev_neg c1 (hno _ (fun z => c1 z.1.1))

theorem laws_toStringS.ev_l0 (l : List ByteArray) (hl : l.length < 4611686018427387904) : ∀ (n i : Nat) (o : List ByteArray), i + n = l.length → o.length = l.length → o.take i = l.take i →
    Ev (fun k => laws_toStringS.l0 k l o (i : Int)) l
  | 0, i, o, hi, ho, ht => by
    refine Ev.step (fun k => laws_toStringS.l0.eq_2 _ _ _ k) ?_
    refine ev_neg (by omega) (ev_now ?_)
    rw [List.take_of_length_le (by omega), List.take_of_length_le (by omega)] at ht
    exact ht
  | n + 1, i, o, hi, ho, ht => by
    refine Ev.step (fun k => laws_toStringS.l0.eq_2 _ _ _ k) ?_
    refine ev_pos (by omega) (ev_pos (by omega) (ev_pos (by omega) ?_))
    rw [inc (by omega), Int.toNat_natCast, rdOf_nat]
    refine laws_toStringS.ev_l0 l hl n (i + 1) _ (by omega) (by simpa using ho) ?_
    rw [take_set_T _ _ _ (by omega), ht, List.take_succ_eq_append_getElem (by omega), txt_get (by omega)]
theorem laws_toStringS.ev (l : List ByteArray) (hl : l.length ≤ 17592186044416) : Ev (fun k => laws_toStringS.f k l) l := by
  unfold laws_toStringS.f
  refine ev_pos (by omega) (ev_pos (by omega) ?_)
  exact laws_toStringS.ev_l0 l (by omega) l.length 0 _ (by omega) (by simp) rfl

theorem impl_within.ev (a b c : Int) : impl_within.f a b c = some (decide (b ≤ a ∧ a ≤ c)) := by
  unfold impl_within.f
  by_cases h : a ≥ b
  · rw [if_pos h]; simp [h]
  · rw [if_neg h]; simp; omega

theorem impl_areEqual.ev {l : List ByteArray} (h : textsLe 140737488355328 l) : impl_areEqual.f l = some (textsOk l) := by
  unfold impl_areEqual.f
  exact if_pos (show l.length ≤ 140737488355328 ∧ ∀ s ∈ l, s.size ≤ 140737488355328 from h)

theorem join_flat : ∀ xs : List (List UInt8), Go.Lib.join xs [] = xs.flatten
  | [] => rfl
  | [x] => by simp [Go.Lib.join, List.intercalate]
  | x :: y :: r => by
    have ih := join_flat (y :: r)
    unfold Go.Lib.join List.intercalate at *
    rw [List.intersperse_cons_cons, List.flatten_cons, List.flatten_cons, ih, List.nil_append]
    simp
theorem strings_Join.ev {l : List ByteArray} (h : l.length ≤ 8) (hs : ∀ s ∈ l, s.size ≤ 40) : strings_Join.f l ⟨#[]⟩ = some (catT l) := by
  unfold strings_Join.f
  have e : Go.Lib.join (l.map (·.data.toList)) (ByteArray.data ⟨#[]⟩).toList = (l.map (·.data.toList)).flatten := join_flat _
  rw [e]
  have hz := catT_size hs
  have ez : (catT l).size = ((l.map (·.data.toList)).flatten).length := rfl
  rw [if_pos (by omega)]
  rfl

theorem impl_JoinShards.ev {l : List ByteArray} (hl : textsLe 1048576 l) (n : Int) : Ev (fun k => impl_JoinShards.f k l n) (joinVal l n) := by
  unfold impl_JoinShards.f joinVal
  have h0 := hl.1
  have hno : ∀ c : Prop, [Decidable c] → ¬ c → Ev (fun k => impl_JoinShards.j0 k l n true) (if c then ((catT l).extract 0 n.toNat, true) else (⟨#[]⟩, false)) := fun c _ hc => by
    refine Ev.step (fun k => impl_JoinShards.j0.eq_2 _ _ _ k) ?_
    exact ev_pos rfl (ev_now (if_neg hc).symm)
  simp only [impl_within.ev, Option.bind_some, decide_eq_true_eq]
  by_cases c1 : 1 ≤ (l.length : Int) ∧ (l.length : Int) ≤ 8
  · refine ev_pos c1 ?_
    rw [impl_areEqual.ev ⟨by omega, fun s hs => by have := hl.2 s hs; omega⟩]
    simp only [Option.bind_some]
    by_cases c2 : textsOk l = true
    · rw [c2]
      refine Ev.step (fun k => impl_JoinShards.j0.eq_2 _ _ _ k) ?_
      refine ev_neg (by simp) ?_
      rw [strings_Join.ev (by omega) (fun s h => (textsOk_mem c2 s h).2)]
      simp only [Option.bind_some, impl_within.ev, decide_eq_true_eq]
      by_cases c3 : 0 ≤ n ∧ n ≤ ((catT l).size : Int)
      · rw [if_pos (show ((1 ≤ (l.length : Int) ∧ (l.length : Int) ≤ 8) ∧ True) ∧ (0 ≤ n ∧ n ≤ ((catT l).size : Int)) from ⟨⟨c1, trivial⟩, c3⟩)]
        exact ev_pos c3 (ev_pos c3.1 (ev_pos c3.2 (ev_now rfl)))
      · rw [if_neg (show ¬ (((1 ≤ (l.length : Int) ∧ (l.length : Int) ≤ 8) ∧ True) ∧ (0 ≤ n ∧ n ≤ ((catT l).size : Int))) from fun z => c3 z.2)]
        exact ev_neg c3 (ev_now rfl)
    · rw [Bool.eq_false_iff.mpr c2]
      exact hno _ (fun z => by cases z.1.2)
  · exact ev_neg c1 (hno _ (fun z => c1 z.1.1))

theorem laws_eqStringS.ev_l0 (l : List ByteArray) (hl : l.length < 4611686018427387904) : ∀ (n i : Nat), i + n = l.length → Ev (fun k => laws_eqStringS.l0 k l l (i : Int)) true
  | 0, i, hi => by
    refine Ev.step (fun k => laws_eqStringS.l0.eq_2 _ _ _ k) ?_
    exact ev_neg (by omega) (ev_now rfl)
  | n + 1, i, hi => by
    refine Ev.step (fun k => laws_eqStringS.l0.eq_2 _ _ _ k) ?_
    refine ev_pos (by omega) (ev_pos (by omega) (ev_pos (by omega) (ev_pos rfl ?_)))
    rw [inc (by omega)]
    exact laws_eqStringS.ev_l0 l hl n (i + 1) (by omega)
theorem laws_eqStringS.ev (l : List ByteArray) (hl : l.length ≤ 281474976710656) : Ev (fun k => laws_eqStringS.f k l l) true := by
  unfold laws_eqStringS.f
  exact ev_pos rfl (laws_eqStringS.ev_l0 l (by omega) l.length 0 (by omega))

theorem FnExactJoinShards : ∀ (l : List ByteArray) (n : Int), (l.length ≤ maxLen ∧ ∀ x ∈ l, ByteArray.size x ≤ maxLen) → (Lit.int .i64 n).wf = true → ∃ k, laws_FnExactJoinShards.f k l n = some true := by
  intro l n hw _
  refine Ev.rounds ?_
  unfold laws_FnExactJoinShards.f
  refine ev_bind (laws_szStringS.ev l hw.1 hw.2 1048576 (by omega) (by omega)) ?_
  by_cases hz : (l.length : Int) + (totT l : Int) ≤ 1048576
  · rw [if_pos hz]
    refine ev_neg (by omega) ?_
    have ht := textsLe_of (show (l.length : Int) + (totT l : Int) ≤ 1048576 by omega)
    have h20 := ht.1
    have hs := spec_JoinShards.ev ht n
    have hi := impl_JoinShards.ev ht n
    have hto := laws_toStringS.ev l (by omega)
    generalize joinVal l n = rb at hs hi
    obtain ⟨b, c⟩ := rb
    repeat first
      | exact ev_now rfl
      | refine ev_bind hto ?_
      | refine ev_bind hs ?_
      | refine ev_bind hi ?_
      | refine ev_bind (laws_toStringS.ev _ (by omega)) ?_
      | refine ev_bind (laws_eqStringS.ev _ (by omega)) ?_
      | refine Ev.step (fun k => laws_FnExactJoinShards.j0.eq_2 _ _ _ k) ?_
      | refine ev_pos rfl ?_
      | (refine ev_neg ?hc ?_; (case hc => first | omega | (simp; done) | (simp; omega)))
      | (refine ev_pos ?hc ?_; (case hc => first | omega | (simp; done)))
  · rw [if_neg hz]
    exact ev_pos (by omega) (ev_now rfl)

end Go.Proofs.Ytelkciakdhiicaa.Pure
