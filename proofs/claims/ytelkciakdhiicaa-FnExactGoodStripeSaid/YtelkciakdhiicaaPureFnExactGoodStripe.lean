/- The given program's GoodStripe returns what the reference's GoodStripe returns, for all stripes, and keeps to itself what it was given; there is no condition. -/
import Derived.Test.YtelkciakdhiicaaPFnExactGoodStripex
import Derived.Test.YtelkciakdhiicaaKit
import Derived.Test.YtelkciakdhiicaaTxt
namespace Go.Proofs.Ytelkciakdhiicaa.Pure
open Go.RowKit Go.Proofs.Ytelkciakdhiicaa.PFnExactGoodStripe Go.Proofs.YtelkciakdhiicaaW.PrintWords Go.Proofs.YtelkciakdhiicaaW.PrintLast Go.Proofs.Ytelkciakdhiicaa.Gf Go.Proofs.Ytelkciakdhiicaa.Kit Go.Proofs.Ytelkciakdhiicaa.KitW
set_option linter.unusedVariables false
set_option linter.unusedSimpArgs false

theorem laws_szStringS.ev_l0 (l : List ByteArray) (hl : l.length ≤ 1048576) (hr : ∀ r ∈ l, r.size ≤ maxLen) : ∀ (n i : Nat) (t : Int), i + n = l.length → 0 ≤ t → t ≤ 1048576 →
    Ev (fun k => laws_szStringS.l0 k l t (i : Int)) (if (totT (l.drop i) : Int) ≤ t then t - (totT (l.drop i) : Int) else -1)
  | 0, i, t, hi, h0, h1 => by
    refine Ev.step (fun k => laws_szStringS.l0.eq_2 _ _ _ k) ?_
    refine ev_neg (by omega) (ev_now ?_)
    rw [List.drop_of_length_le (by omega)]
    simp [totT, h0]
  | n + 1, i, t, hi, h0, h1 => by
    have hlt : i < l.length := by omega
    have hm : i < 4611686018427387904 := by omega
    have he : totT (l.drop i) = l[i].size + totT (l.drop (i + 1)) := by rw [List.drop_eq_getElem_cons hlt]; rfl
    have hb := hr _ (List.getElem_mem hlt)
    unfold maxLen at hb
    have hw : wrap64 (t - (l[i].size : Int)) = t - (l[i].size : Int) := by unfold wrap64; omega
    refine Ev.step (fun k => laws_szStringS.l0.eq_2 _ _ _ k) ?_
    refine ev_pos (by omega) (ev_pos (by omega) ?_)
    rw [rdOf_nat, txt_get hlt, he, hw]
    by_cases h : (l[i].size : Int) ≤ t
    · refine ev_neg (by omega) ?_
      rw [inc hm]
      refine ev_eq (laws_szStringS.ev_l0 l hl hr n (i + 1) (t - (l[i].size : Int)) (by omega) (by omega) (by omega)) ?_
      by_cases h2 : (totT (l.drop (i + 1)) : Int) ≤ t - (l[i].size : Int)
      · rw [if_pos h2, if_pos (by omega)]; omega
      · rw [if_neg h2, if_neg (by omega)]
    · refine ev_pos (by omega) (ev_now ?_)
      rw [if_neg (by omega)]
theorem laws_szStringS.ev (l : List ByteArray) (hl : l.length ≤ maxLen) (hr : ∀ r ∈ l, r.size ≤ maxLen) (t : Int) (h0 : 0 ≤ t) (h1 : t ≤ 1048576) :
    Ev (fun k => laws_szStringS.f k l t) (if (l.length : Int) + (totT l : Int) ≤ t then t - (l.length : Int) - (totT l : Int) else -1) := by
  unfold laws_szStringS.f
  have e : wrap64 (t - (l.length : Int)) = t - (l.length : Int) := by unfold maxLen at hl; unfold wrap64; omega
  rw [e]
  by_cases h : (l.length : Int) ≤ t
  · refine ev_neg (by omega) (ev_eq (laws_szStringS.ev_l0 l (by omega) hr l.length 0 _ (by omega) (by omega) (by omega)) ?_)
    rw [List.drop_zero]
    by_cases h2 : (totT l : Int) ≤ t - (l.length : Int)
    · rw [if_pos h2, if_pos (by omega)]
    · rw [if_neg h2, if_neg (by omega)]
  · refine ev_pos (by omega) (ev_now ?_)
    rw [if_neg (by omega)]

theorem laws_szStripe.ev (l m : List ByteArray) (hl : l.length ≤ maxLen ∧ ∀ x ∈ l, ByteArray.size x ≤ maxLen) (hm : m.length ≤ maxLen ∧ ∀ x ∈ m, ByteArray.size x ≤ maxLen) (t : Int) (h0 : 0 ≤ t) (h1 : t ≤ 1048576) :
    Ev (fun k => laws_szStripe.f k l m t) (if (l.length : Int) + (totT l : Int) + ((m.length : Int) + (totT m : Int)) ≤ t then t - ((l.length : Int) + (totT l : Int)) - ((m.length : Int) + (totT m : Int)) else -1) := by
  unfold laws_szStripe.f
  refine ev_bind (laws_szStringS.ev l hl.1 hl.2 t h0 h1) ?_
  by_cases c : (l.length : Int) + (totT l : Int) ≤ t
  · rw [if_pos c]
    refine ev_neg (by omega) (ev_bind (laws_szStringS.ev m hm.1 hm.2 _ (by omega) (by omega)) ?_)
    by_cases c2 : (m.length : Int) + (totT m : Int) ≤ t - (l.length : Int) - (totT l : Int)
    · rw [if_pos c2]
      refine ev_neg (by omega) (ev_now ?_)
      rw [if_pos (by omega)]
      omega
    · rw [if_neg c2]
      refine ev_pos (by omega) (ev_now ?_)
      rw [if_neg (by omega)]
  · rw [if_neg c]
    refine ev_pos (by omega) (ev_now ?_)
    rw [if_neg (by omega)]

theorem spec_l1In.ev (a b c : Int) : spec_l1In.f a b c = some (decide (b ≤ a ∧ a ≤ c)) := by
  unfold spec_l1In.f
  by_cases h : a ≥ b
  · rw [if_pos h]; simp [h]
  · rw [if_neg h]; simp; omega

theorem spec_l3Texts.ev_l0 (l : List ByteArray) (hl : l.length < 4611686018427387904) : ∀ (d i : Nat), i + d = l.length → Ev (fun k => spec_l3Texts.l0 k l l (l.length : Int) (i : Int)) (!((List.range d).any fun t => badT l (i + t)))
  | 0, i, hi => by
    refine Ev.step (fun k => spec_l3Texts.l0.eq_2 _ _ _ _ k) ?_
    exact ev_neg (by omega) (ev_now rfl)
  | d + 1, i, hi => by
    refine Ev.step (fun k => spec_l3Texts.l0.eq_2 _ _ _ _ k) ?_
    simp only [rdOf_nat, rdOf_zero]
    refine ev_pos (by omega) (ev_pos (by omega) (ev_pos (by omega) (ev_pos (by omega) ?_)))
    have ha : ((List.range (d + 1)).any fun t => badT l (i + t)) = (badT l i || (List.range d).any fun t => badT l (i + 1 + t)) := by
      rw [List.range_succ_eq_map, List.any_cons, List.any_map, Nat.add_zero]
      congr 2
      funext t
      simp only [Function.comp_apply]
      rw [show i + (t + 1) = i + 1 + t by omega]
    rw [ha]
    by_cases h1 : (txt l i).size = (txt l 0).size
    · refine ev_pos (by omega) ?_
      by_cases h2 : (txt l i).size > 40
      · refine ev_pos (by omega) (ev_now ?_)
        have : badT l i = true := by unfold badT; rw [decide_eq_true (by omega), Bool.true_or]
        rw [this]; rfl
      · refine ev_neg (by omega) ?_
        have : badT l i = false := by unfold badT; rw [decide_eq_false (by omega), h1]; simp
        rw [this, Bool.false_or, inc (by omega)]
        exact spec_l3Texts.ev_l0 l hl d (i + 1) (by omega)
    · refine ev_neg (by omega) (ev_now ?_)
      have : badT l i = true := by unfold badT; rw [bne_iff_ne.2 h1, Bool.or_true]
      rw [this]; rfl
theorem spec_l3Texts.ev (l : List ByteArray) (hl : l.length < 4611686018427387904) : Ev (fun k => spec_l3Texts.f k l) (textsOk l) := by
  unfold spec_l3Texts.f
  have := spec_l3Texts.ev_l0 l hl l.length 0 (by omega)
  rw [textsOk_bad]
  simpa using this

theorem spec_GoodStripe.ev {D P : List ByteArray} (hD : textsLe 1048576 D) (hP : textsLe 1048576 P) : Ev (fun k => spec_GoodStripe.f k D P) (goodStripe D P) := by
  unfold spec_GoodStripe.f goodStripe
  have h1 := hD.1
  have h2 := hP.1
  simp only [spec_l1In.ev, Option.bind_some, decide_eq_true_eq]
  by_cases c1 : 1 ≤ (D.length : Int) ∧ (D.length : Int) ≤ 16
  · refine ev_pos c1 ?_
    by_cases c2 : 1 ≤ (P.length : Int) ∧ (P.length : Int) ≤ 4
    · refine ev_pos c2 (ev_pos (by simp; omega) (ev_pos (by simp; omega) (ev_bind (spec_l3Texts.ev _ (by simp; omega)) (ev_now ?_))))
      rw [decide_eq_true ⟨c1, c2⟩, Bool.true_and, List.nil_append]
    · refine ev_neg c2 (ev_now ?_)
      rw [decide_eq_false (fun z => c2 z.2), Bool.false_and]
  · refine ev_neg c1 (ev_now ?_)
    rw [decide_eq_false (fun z => c1 z.1), Bool.false_and]

theorem laws_toStringS.ev_l0 (l : List ByteArray) (hl : l.length < 4611686018427387904) : ∀ (n i : Nat) (o : List ByteArray), i + n = l.length → o.length = l.length → o.take i = l.take i →
    Ev (fun k => laws_toStringS.l0 k l o (i : Int)) l
  | 0, i, o, hi, ho, ht => by
    refine Ev.step (fun k => laws_toStringS.l0.eq_2 _ _ _ k) ?_
    refine ev_neg (by omega) (ev_now ?_)
    rw [List.take_of_length_le (by omega), List.take_of_length_le (by omega)] at ht
    exact ht
  | n + 1, i, o, hi, ho, ht => by
    refine Ev.step (fun k => laws_toStringS.l0.eq_2 _ _ _ k) ?_
    refine ev_pos (by omega) (ev_pos (by omega) (ev_pos (by omega) ?_))
    rw [inc (by omega), Int.toNat_natCast, rdOf_nat]
    refine laws_toStringS.ev_l0 l hl n (i + 1) _ (by omega) (by simpa using ho) ?_
    rw [take_set_T _ _ _ (by omega), ht, List.take_succ_eq_append_getElem (by omega), txt_get (by omega)]
theorem laws_toStringS.ev (l : List ByteArray) (hl : l.length ≤ 17592186044416) : Ev (fun k => laws_toStringS.f k l) l := by
  unfold laws_toStringS.f
  refine ev_pos (by omega) (ev_pos (by omega) ?_)
  exact laws_toStringS.ev_l0 l (by omega) l.length 0 _ (by omega) (by simp) rfl

theorem laws_toStripe.ev (l m : List ByteArray) (hl : l.length ≤ 17592186044416) (hm : m.length ≤ 17592186044416) : Ev (fun k => laws_toStripe.f k l m) (l, m) := by
  unfold laws_toStripe.f
  exact ev_bind (laws_toStringS.ev l hl) (ev_bind (laws_toStringS.ev m hm) (ev_now rfl))

theorem impl_within.ev (a b c : Int) : impl_within.f a b c = some (decide (b ≤ a ∧ a ≤ c)) := by
  unfold impl_within.f
  by_cases h : a ≥ b
  · rw [if_pos h]; simp [h]
  · rw [if_neg h]; simp; omega

theorem impl_areEqual.ev {l : List ByteArray} (h : textsLe 140737488355328 l) : impl_areEqual.f l = some (textsOk l) := by
  unfold impl_areEqual.f
  exact if_pos (show l.length ≤ 140737488355328 ∧ ∀ s ∈ l, s.size ≤ 140737488355328 from h)

theorem slices_Clone_string_string.ev {l : List ByteArray} (h : l.length < 8796093022208) : slices_Clone_string_string.f l = some l := by
  unfold slices_Clone_string_string.f
  simp only [Option.bind_some]
  rw [if_pos (by simpa using h), List.nil_append]

theorem impl_GoodStripe.ev {D P : List ByteArray} (hD : textsLe 1048576 D) (hP : textsLe 1048576 P) : impl_GoodStripe.f D P = some (goodStripe D P) := by
  unfold impl_GoodStripe.f goodStripe
  have h1 := hD.1
  have h2 := hP.1
  have ht : textsLe 140737488355328 (D ++ P) := ⟨by simp; omega, fun s hs => by have := (hD.append hP).2 s hs; omega⟩
  simp only [impl_within.ev, Option.bind_some, decide_eq_true_eq]
  by_cases c1 : 1 ≤ (D.length : Int) ∧ (D.length : Int) ≤ 16
  · rw [if_pos c1]
    by_cases c2 : 1 ≤ (P.length : Int) ∧ (P.length : Int) ≤ 4
    · rw [if_pos c2, slices_Clone_string_string.ev (by omega)]
      simp only [Option.bind_some]
      rw [if_pos (by omega), impl_areEqual.ev ht, decide_eq_true ⟨c1, c2⟩, Bool.true_and]
      rfl
    · rw [if_neg c2, decide_eq_false (fun z => c2 z.2), Bool.false_and]
  · rw [if_neg c1, decide_eq_false (fun z => c1 z.1), Bool.false_and]

theorem laws_eqStringS.ev_l0 (l : List ByteArray) (hl : l.length < 4611686018427387904) : ∀ (n i : Nat), i + n = l.length → Ev (fun k => laws_eqStringS.l0 k l l (i : Int)) true
  | 0, i, hi => by
    refine Ev.step (fun k => laws_eqStringS.l0.eq_2 _ _ _ k) ?_
    exact ev_neg (by omega) (ev_now rfl)
  | n + 1, i, hi => by
    refine Ev.step (fun k => laws_eqStringS.l0.eq_2 _ _ _ k) ?_
    refine ev_pos (by omega) (ev_pos (by omega) (ev_pos (by omega) (ev_pos rfl ?_)))
    rw [inc (by omega)]
    exact laws_eqStringS.ev_l0 l hl n (i + 1) (by omega)
theorem laws_eqStringS.ev (l : List ByteArray) (hl : l.length ≤ 281474976710656) : Ev (fun k => laws_eqStringS.f k l l) true := by
  unfold laws_eqStringS.f
  exact ev_pos rfl (laws_eqStringS.ev_l0 l (by omega) l.length 0 (by omega))

theorem laws_eqStripe.ev (l m : List ByteArray) (hl : l.length ≤ 281474976710656) (hm : m.length ≤ 281474976710656) : Ev (fun k => laws_eqStripe.f k l m l m) true := by
  unfold laws_eqStripe.f
  exact ev_bind (laws_eqStringS.ev l hl) (ev_pos rfl (ev_bind (laws_eqStringS.ev m hm) (ev_pos rfl (ev_now rfl))))

theorem FnExactGoodStripe : ∀ (l m : List ByteArray), ((l.length ≤ maxLen ∧ ∀ x ∈ l, ByteArray.size x ≤ maxLen) ∧ (m.length ≤ maxLen ∧ ∀ x ∈ m, ByteArray.size x ≤ maxLen)) → ∃ k, laws_FnExactGoodStripe.f k l m = some true := by
  intro l m hw
  refine Ev.rounds ?_
  unfold laws_FnExactGoodStripe.f
  refine ev_bind (laws_szStripe.ev l m hw.1 hw.2 1048576 (by omega) (by omega)) ?_
  by_cases hz : (l.length : Int) + (totT l : Int) + ((m.length : Int) + (totT m : Int)) ≤ 1048576
  · rw [if_pos hz]
    refine ev_neg (by omega) ?_
    have ht := textsLe_of (show (l.length : Int) + (totT l : Int) ≤ 1048576 by omega)
    have hu := textsLe_of (show (m.length : Int) + (totT m : Int) ≤ 1048576 by omega)
    have h20 := ht.1
    have h21 := hu.1
    have hs := spec_GoodStripe.ev ht hu
    have hi : Ev (fun _ => impl_GoodStripe.f l m) (goodStripe l m) := by rw [impl_GoodStripe.ev ht hu]; exact Ev.now _
    generalize goodStripe l m = b at hs hi
    repeat first
      | exact ev_now rfl
      | refine ev_bind hs ?_
      | refine ev_bind hi ?_
      | refine ev_bind (laws_toStringS.ev _ (by omega)) ?_
      | (refine ev_bind (laws_toStripe.ev _ _ (by omega) (by omega)) ?_; dsimp only)
      | refine ev_bind (laws_eqStringS.ev _ (by omega)) ?_
      | refine ev_bind (laws_eqStripe.ev _ _ (by omega) (by omega)) ?_
      | refine ev_pos rfl ?_
      | (refine ev_neg ?hc ?_; (case hc => first | omega | (simp; done) | (simp; omega)))
      | (refine ev_pos ?hc ?_; (case hc => first | omega | (simp; done)))
  · rw [if_neg hz]
    exact ev_pos (by omega) (ev_now rfl)

end Go.Proofs.Ytelkciakdhiicaa.Pure
