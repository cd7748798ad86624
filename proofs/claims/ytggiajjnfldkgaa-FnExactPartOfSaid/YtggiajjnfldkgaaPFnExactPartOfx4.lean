-- Laid by a program of this session.
import Derived.Test.YtggiajjnfldkgaaPFnExactPartOfx0
import Derived.Test.YtggiajjnfldkgaaPFnExactPartOfx3
namespace Go.Proofs.Ytggiajjnfldkgaa.PFnExactPartOf
open Go.RowKit Go.Proofs.YtggiajjnfldkgaaW.PrintWords Go.Proofs.YtggiajjnfldkgaaW.PrintLast Go.Proofs.YtggiajjnfldkgaaW.PrintMore
attribute [local go_sem] max2_int min2_int max_two min_two max_three min_three max_four min_four   -- for this text's walks alone
set_option linter.unusedVariables false
set_option linter.unusedSimpArgs false

/-! ### impl_GoodMatrix: function 114 (by hand) -/
section
open Go.Proofs.Ytggiajjnfldkgaa.Gf Go.Proofs.Ytggiajjnfldkgaa.Kit
theorem gm_at {w : World} {A : Option Addr} {n : Nat} {xs : List (List Int)} (h : Kd.C (Kd.slice 5 (Kd.int .u8)) w A n xs) (i : Nat) (h1 : i < n) : ∃ ad A0 c0, A = some ad ∧ w.cell? (ad.add i) = some (.slice A0 (xs.getD i []).length c0) := by
  obtain ⟨ad, c, e, _, hK, hc0⟩ := Kd.C_get h ([] : List Int) (i : Int) (by omega) (by omega)
  have hc : ∀ j u, c[j]? = some u → w.cell? (ad.add ((i : Int).toNat * 1 + j)) = some u := hc0
  obtain ⟨A0, c0, rfl, l0, g0⟩ := hK
  exact ⟨ad, A0, c0, e, by have hq := hc 0 _ rfl; rwa [Nat.mul_one, Nat.add_zero, Int.toNat_natCast] at hq⟩
theorem gm_drawn {a b c : World} (h : Drawn0 a b) (k : Drawn0 b c) : Drawn0 a c := by
  obtain ⟨q, rfl⟩ := k.out
  exact Drawn0.step h q
/-- The test of one row: does its length differ from the first row's? -/
theorem gm_test (gb : Nat) (ad : Addr) (n c : Nat) (hn : 0 < n) (A0 : Option Addr) (k0 c0 : Nat) (A1 : Option Addr) (k1 c1 : Nat) (W : World)
    (hbox : W.cell? ⟨gb, 0, none⟩ = some (.slice (some ad) n c)) (h0 : W.cell? (ad.add 0) = some (.slice A0 k0 c0)) :
    Calls Try.prog 159 #[.slice A1 k1 c1, .pointer (some ⟨gb, 0, none⟩)] W fun e w' => e = .returned (.bool (k1 != k0)) ∧ Drawn0 W w' := by
  rw [Addr.add_zero'] at h0
  have hn' : (0 < n) = True := eq_true hn
  go_enter Try.func159, Try.ntmps159
  go_wp2
  go_ret
  refine ⟨?_, Drawn0.refl _⟩
  by_cases e : k1 = k0
  · subst e; simp
  · have e2 : ¬ ((k1 : Int) = (k0 : Int)) := by omega
    simp only [bne]
    rw [show ((k1 : Int) == (k0 : Int)) = false by simpa using e2, show (k1 == k0) = false by simpa using e]
    rfl
/-- The first place below n at which p holds, -1 if there is none. -/
def IdxOf (p : Nat → Bool) (n : Nat) (r : Int) : Prop := (r = -1 ∧ ∀ i, i < n → p i = false) ∨ ∃ i : Nat, i < n ∧ r = (i : Int) ∧ p i = true ∧ ∀ j, j < i → p j = false
set_option maxHeartbeats 4000000 in
theorem rows_IndexFunc (g : Nat) (eg : ∀ args w, (callFunc g args).run Try.prog w = .ok (.enter g args) w) (fv : Value) (p : Nat → Bool) (ad : Addr) (n c : Nat) (v : Nat → Value) (w : World) (hbig : n ≤ 9223372036854775806)
    (hc : ∀ i, i < n → w.cell? (ad.add i) = some (v i))
    (hp : ∀ i, i < n → ∀ W, Drawn0 w W → Calls Try.prog g #[v i, fv] W fun e w' => e = .returned (.bool (p i)) ∧ Drawn0 W w') :
    Calls Try.prog 179 #[.slice (some ad) n c, .func (.func g) #[] #[fv]] w fun e w' => (∃ r, e = .returned (.int .i64 r) ∧ IdxOf p n r) ∧ Drawn0 w w' := by
  have HP := Aside0.mk hp
  have HC := Aside0.mk hc
  clear hp hc
  go_enter Try.func179, Try.ntmps179
  go_wp2
  go_loopg [5, 8] n (fun gg _ s8 wr => ∃ kk : Nat, kk ≤ n ∧ n - kk ≤ gg ∧ s8 = .int .i64 kk ∧ Aside0 (Drawn0 w wr) ∧ Aside0 (∀ j, j < kk → p j = false))
  case atStart => exact ⟨0, Nat.zero_le _, by omega, rfl, ⟨Drawn0.refl _⟩, ⟨fun j hj => absurd hj (Nat.not_lt_zero _)⟩⟩
  case round =>
    obtain ⟨kk, hkk, hg, rfl, HD, HA⟩ := hrel
    by_cases hlt : kk < n
    · have hltz : (kk : Int) < (n : Int) := by omega
      have hcell : wr.cell? (ad.add kk) = some (v kk) := by
        obtain ⟨q, rfl⟩ := HD.out.out
        exact HC.out kk hlt
      have hcall := HP.out kk hlt
      cases hq : p kk with
      | true =>
        rw [hq] at hcall
        have HQ := Aside0.mk hq
        clear hq
        have HX := Aside0.mk hcall
        clear hcall
        go_wp2_with (go_at_fn g; refine (HX.out _ ?dr).mono ?_; (case dr => exact HD.out); rintro e w' ⟨rfl, hd⟩)
        go_ret
        exact ⟨⟨_, rfl, .inr ⟨kk, hlt, rfl, HQ.out, HA.out⟩⟩, gm_drawn HD.out hd⟩
      | false =>
        rw [hq] at hcall
        have HQ := Aside0.mk hq
        clear hq
        have HX := Aside0.mk hcall
        clear hcall
        go_wp2_with (go_at_fn g; refine (HX.out _ ?dr).mono ?_; (case dr => exact HD.out); rintro e w' ⟨rfl, hd⟩)
        go_roundg (n - (kk + 1))
        case measure => omega
        case rel => exact ⟨kk + 1, by omega, by omega, by go_num, ⟨gm_drawn HD.out hd⟩, ⟨fun j hj => by by_cases e : j = kk; exact e ▸ HQ.out; exact HA.out j (by omega)⟩⟩
    · have hltz : ¬ (kk : Int) < (n : Int) := by omega
      have : kk = n := by omega
      subst this
      go_wp2
      go_ret
      exact ⟨⟨_, rfl, .inl ⟨rfl, HA.out⟩⟩, HD.out⟩
theorem idxOf_nonneg {p : Nat → Bool} {n : Nat} {r : Int} (h : IdxOf p n r) : decide (r ≥ 0) = (List.range n).any p := by
  rcases h with ⟨rfl, h⟩ | ⟨i, hi, rfl, hp, _⟩
  · have : (List.range n).any p = false := by
      rw [List.any_eq_false]
      intro x hx
      rw [h x (by simpa using hx)]
      simp
    rw [this]; rfl
  · have : (List.range n).any p = true := List.any_eq_true.2 ⟨i, by simpa using hi, hp⟩
    rw [this]; simp
set_option maxHeartbeats 4000000 in
theorem rows_ContainsFunc (g : Nat) (eg : ∀ args w, (callFunc g args).run Try.prog w = .ok (.enter g args) w) (fv : Value) (p : Nat → Bool) (ad : Addr) (n c : Nat) (v : Nat → Value) (w : World) (hbig : n ≤ 9223372036854775806)
    (hc : ∀ i, i < n → w.cell? (ad.add i) = some (v i))
    (hp : ∀ i, i < n → ∀ W, Drawn0 w W → Calls Try.prog g #[v i, fv] W fun e w' => e = .returned (.bool (p i)) ∧ Drawn0 W w') :
    Calls Try.prog 158 #[.slice (some ad) n c, .func (.func g) #[] #[fv]] w fun e w' => e = .returned (.bool ((List.range n).any p)) ∧ Drawn0 w w' := by
  have HX := Aside0.mk (rows_IndexFunc g eg fv p ad n c v w hbig hc hp)
  clear hp hc
  go_enter Try.func158, Try.ntmps158
  go_wp2_with (go_at_call 179; refine HX.out.mono ?_; rintro e w' ⟨⟨r, rfl, hr⟩, hd⟩)
  go_ret
  refine ⟨?_, hd⟩
  rw [← idxOf_nonneg hr]
  first | rfl | (simp; done)
theorem gm_within (a b c : Int) : impl_within.f a b c = some (decide (b ≤ a ∧ a ≤ c)) := by
  unfold impl_within.f
  by_cases h : a ≥ b
  · rw [if_pos h]; simp [h]
  · rw [if_neg h]; simp; omega
def impl_GoodMatrix.f (l0_0 : List (List Int)) : Option (Bool) := some (goodM l0_0)
set_option maxHeartbeats 4000000 in
set_option maxRecDepth 100000 in
theorem impl_GoodMatrix.calls (A0_0 : Option Addr) (c0_0 : Nat) (l0_0 : List (List Int)) (r : Bool) (w : World) (hr0_0 : Kd.C (Kd.slice 5 (Kd.int .u8)) w A0_0 l0_0.length l0_0) (hc0_0 : l0_0.length ≤ c0_0) (h : impl_GoodMatrix.f l0_0 = some r) :
    Calls Try.prog 114 #[.agg #[.slice A0_0 l0_0.length c0_0]] w fun e w' => e = .returned (.bool r) ∧ Below w.heap.size w w' := by
  obtain rfl := Option.some.inj h
  clear h
  have hu := Try.underlying24
  go_enter Try.func114, Try.ntmps114
  go_wp2_with fail
  obtain ⟨W, hW⟩ : ∃ W : World, W = w.alloc (.cells #[.slice A0_0 l0_0.length c0_0] 24 (0, 0)) := ⟨_, rfl⟩
  have hb : Below w.heap.size w W := by rw [hW]; exact below_alloc (Below.refl _ _) _
  have hc1 : W.cell? ⟨w.heap.size, 0, none⟩ = some (.slice A0_0 l0_0.length c0_0) := by rw [hW]; go_simp
  rw [← hW]
  clear hW
  have hw1 : impl_within.f (l0_0.length : Int) 1 16 = some (decide (1 ≤ (l0_0.length : Int) ∧ (l0_0.length : Int) ≤ 16)) := gm_within _ _ _
  by_cases h1 : 1 ≤ l0_0.length ∧ l0_0.length ≤ 16
  · rw [show decide (1 ≤ (l0_0.length : Int) ∧ (l0_0.length : Int) ≤ 16) = true from decide_eq_true (by omega)] at hw1
    obtain ⟨ad, A0, c0, rfl, hcell⟩ := gm_at hr0_0 0 (by omega)
    have hrows : ∀ i, i < l0_0.length → ∃ A1 c1, W.cell? (ad.add i) = some (.slice A1 (l0_0.getD i []).length c1) := fun i hi => by
      obtain ⟨ad2, A1, c1, e, h2⟩ := gm_at hr0_0 i hi
      injection e with e
      subst e
      exact ⟨A1, c1, (hb.cell (World.block_lt_of_cell? w _ h2)).trans h2⟩
    have hcell2 : W.cell? (ad.add 0) = some (.slice A0 (l0_0.getD 0 []).length c0) := (hb.cell (World.block_lt_of_cell? w _ hcell)).trans hcell
    rw [Addr.add_zero'] at hcell2
    have hlt : (0 < l0_0.length) = True := eq_true (by omega)
    have hw2 : impl_within.f ((l0_0.getD 0 []).length : Int) 1 16 = some (decide (1 ≤ ((l0_0.getD 0 []).length : Int) ∧ ((l0_0.getD 0 []).length : Int) ≤ 16)) := gm_within _ _ _
    obtain ⟨n0, hn0⟩ : ∃ n0, n0 = (l0_0.getD 0 []).length := ⟨_, rfl⟩
    rw [← hn0] at hw2 hcell2
    by_cases h2 : 1 ≤ n0 ∧ n0 ≤ 16
    · rw [show decide (1 ≤ (n0 : Int) ∧ (n0 : Int) ≤ 16) = true from decide_eq_true (by omega)] at hw2
      have hv : ∃ v : Nat → Value, ∀ i, i < l0_0.length → ∃ A1 c1, v i = .slice A1 (l0_0.getD i []).length c1 ∧ W.cell? (ad.add i) = some (v i) := by
        refine ⟨fun i => (W.cell? (ad.add i)).getD undef, fun i hi => ?_⟩
        obtain ⟨A1, c1, e⟩ := hrows i hi
        exact ⟨A1, c1, by show (W.cell? (ad.add i)).getD undef = _; rw [e]; rfl, by show _ = some ((W.cell? (ad.add i)).getD undef); rw [e]; rfl⟩
      obtain ⟨v, hv⟩ := hv
      have HV := Aside0.mk hv
      have HW1 := Aside0.mk hw1
      have HW2 := Aside0.mk hw2
      have HB := Aside0.mk hb
      have HN := Aside0.mk hn0
      have HL := Aside0.mk h1
      have H2 := Aside0.mk h2
      clear hv hw1 hw2 hb hrows hr0_0 hcell hn0 h1 h2
      have h0l : 0 < l0_0.length := by have := HL.out; omega
      go_wp2_with (first | (go_at_call 78; first | (with_reducible refine (impl_within.calls (l0_0.length : Int) 1 16 true _ HW1.out).mono ?_; rintro e w' ⟨rfl, ⟨q, rfl⟩⟩) | (with_reducible refine (impl_within.calls (n0 : Int) 1 16 true _ HW2.out).mono ?_; rintro e w' ⟨rfl, ⟨q2, rfl⟩⟩)) | fail)
      have hcf := rows_ContainsFunc 159 (enters_of Try.func159 rfl rfl) (.pointer (some ⟨w.heap.size, 0, none⟩)) (fun i => (l0_0.getD i []).length != n0) ad l0_0.length c0_0 v (W.drewN (q + q2)) (by have := HL.out; omega) (fun i hi => by obtain ⟨A1, c1, _, e⟩ := HV.out i hi; exact e)
        (fun i hi W1 hd => by
          obtain ⟨A1, c1, e, _⟩ := HV.out i hi
          rw [e]
          obtain ⟨q3, rfl⟩ := hd.out
          refine gm_test w.heap.size ad l0_0.length c0_0 h0l A0 n0 c0 A1 _ c1 _ hc1 ?_
          rw [Addr.add_zero']; exact hcell2)
      refine hcf.mono ?_
      clear hcf
      rintro e w' ⟨rfl, ⟨q3, rfl⟩⟩
      go_wp2
      go_ret
      refine ⟨?_, pw_below_drewN HB.out _⟩
      have e : goodM l0_0 = !((List.range l0_0.length).any fun i => (l0_0.getD i []).length != n0) := by
        unfold goodM
        rw [← HN.out, decide_eq_true (show 1 ≤ l0_0.length ∧ l0_0.length ≤ 16 ∧ 1 ≤ n0 ∧ n0 ≤ 16 from ⟨HL.out.1, HL.out.2, H2.out⟩), Bool.true_and]
      rw [e]
      rfl
    · rw [show decide (1 ≤ (n0 : Int) ∧ (n0 : Int) ≤ 16) = false from decide_eq_false (by omega)] at hw2
      have HW1 := Aside0.mk hw1
      have HW2 := Aside0.mk hw2
      have HB := Aside0.mk hb
      have HN := Aside0.mk hn0
      have H2 := Aside0.mk h2
      have h0l : 0 < l0_0.length := by omega
      clear hw1 hw2 hb hrows hr0_0 hcell hn0 h1 h2
      go_wp2_with (first | (go_at_call 78; first | (with_reducible refine (impl_within.calls (l0_0.length : Int) 1 16 true _ HW1.out).mono ?_; rintro e w' ⟨rfl, ⟨q, rfl⟩⟩) | (with_reducible refine (impl_within.calls (n0 : Int) 1 16 false _ HW2.out).mono ?_; rintro e w' ⟨rfl, ⟨q2, rfl⟩⟩)) | fail)
      go_ret
      refine ⟨?_, pw_below_drewN HB.out _⟩
      have e : goodM l0_0 = false := by
        unfold goodM
        rw [← HN.out, decide_eq_false (fun z => H2.out z.2.2), Bool.false_and]
      rw [e]
      rfl
  · rw [show decide (1 ≤ (l0_0.length : Int) ∧ (l0_0.length : Int) ≤ 16) = false from decide_eq_false (by omega)] at hw1
    have HW1 := Aside0.mk hw1
    have HB := Aside0.mk hb
    have H1 := Aside0.mk h1
    clear hw1 hb h1 hr0_0
    go_wp2_with (first | (go_at_call 78; (with_reducible refine (impl_within.calls (l0_0.length : Int) 1 16 false _ HW1.out).mono ?_; rintro e w' ⟨rfl, ⟨q, rfl⟩⟩)) | fail)
    go_ret
    refine ⟨?_, pw_below_drewN HB.out _⟩
    have e : goodM l0_0 = false := by
      unfold goodM
      rw [decide_eq_false (fun z => H1.out ⟨z.1, z.2.1⟩), Bool.false_and]
    rw [e]
    rfl
end

/-! ### impl_isIncreasing: function 143 -/
def impl_isIncreasing.l0 : Nat → List Int → Int → List Int → Int → Int → Option (Bool)
  | 0, _, _, _, _, _ => none
  | k + 1, x0, x1, x7, x8, x9 => if x9 < x8 then (if 0 ≤ x9 then (if x9 < (x7.length : Int) then ((impl_within.f (rd x7 x9) 0 (wrap64 (x1 - 1))).bind fun t175 => (if t175 = true then (if x9 > 0 then (if 0 ≤ (wrap64 (x9 - 1)) then (if (wrap64 (x9 - 1)) < (x0.length : Int) then (if (rd x7 x9) ≤ (rd x0 (wrap64 (x9 - 1))) then (some false) else (impl_isIncreasing.l0 k x0 x1 x7 x8 (wrap64 (x9 + 1)))) else (none)) else (none)) else (impl_isIncreasing.l0 k x0 x1 x7 x8 (wrap64 (x9 + 1)))) else (some false))) else (none)) else (none)) else (some true)
def impl_isIncreasing.f (k : Nat) (l0 : List Int) (a1 : Int) : Option (Bool) := impl_isIncreasing.l0 k l0 a1 l0 (l0.length : Int) 0
theorem impl_isIncreasing.mono_l : ∀ k, (∀ y0 y1 y2 y3 y4, LeO (impl_isIncreasing.l0 k y0 y1 y2 y3 y4) (impl_isIncreasing.l0 (k + 1) y0 y1 y2 y3 y4))
  | 0 => fun _ _ _ _ _ r h => by simp [impl_isIncreasing.l0] at h
  | k + 1 => by
    have ih0 := impl_isIncreasing.mono_l k
    · intro y0 y1 y2 y3 y4
      unfold impl_isIncreasing.l0
      repeat' first
      | (with_reducible exact ih0 _ _ _ _ _)
      | (with_reducible exact LeO.refl _)
      | (with_reducible exact LeO.none _)
      | (with_reducible refine LeO.ite ?_ ?_)
      | (with_reducible refine LeO.bind ?_ (fun _ => ?_))
      | exact ih0 _ _ _ _ _
      | exact LeO.none _
      | refine LeO.ite ?_ ?_
      | refine LeO.bind ?_ (fun _ => ?_)
theorem impl_isIncreasing.mono : ∀ a0 a1 k, LeO (impl_isIncreasing.f k a0 a1) (impl_isIncreasing.f (k + 1) a0 a1) := by
  intro a0 a1 k
  have ih0 := impl_isIncreasing.mono_l k
  unfold impl_isIncreasing.f
  repeat' first
      | (with_reducible exact ih0 _ _ _ _ _)
      | (with_reducible exact LeO.refl _)
      | (with_reducible exact LeO.none _)
      | (with_reducible refine LeO.ite ?_ ?_)
      | (with_reducible refine LeO.bind ?_ (fun _ => ?_))
      | exact ih0 _ _ _ _ _
      | exact LeO.none _
      | refine LeO.ite ?_ ?_
      | refine LeO.bind ?_ (fun _ => ?_)
set_option maxHeartbeats 8000000 in
set_option maxRecDepth 100000 in
theorem impl_isIncreasing.calls (k : Nat) (A0 : Option Addr) (c0 : Nat) (l0 : List Int) (a1 : Int) (r : Bool) (w : World) (hr0 : Kd.C (Kd.int .i64) w A0 l0.length l0) (hc0 : l0.length ≤ c0) (h : impl_isIncreasing.f k l0 a1 = some r) :
    Calls Try.prog 143 #[.slice A0 l0.length c0, .int .i64 a1] w fun e w' => e = .returned (.bool r) ∧ Drawn0 w w' := by
  have HR0 := Aside0.mk hr0
  have HC0 := Aside0.mk hc0
  clear hr0 hc0
  have H : (impl_isIncreasing.l0 k l0 a1 l0 (l0.length : Int) 0) = some r := h
  clear h
  have H' := Aside0.mk H
  clear H
  go_enter Try.func143, Try.ntmps143
  go_wp2
  go_loopg [9] k (fun kq v9 w' => ∃ (x9_1 : Int), v9 = .int .i64 x9_1 ∧ Aside0 (impl_isIncreasing.l0 kq l0 a1 l0 (l0.length : Int) x9_1 = some r) ∧ Aside0 (kq ≤ k) ∧ Drawn0 w w')
  case atStart => exact ⟨(0), (by first | rfl | (simp; done) | (simp [*]; done)), H', ⟨Nat.le_refl _⟩, by repeat (first | exact Drawn0.refl _ | apply Drawn0.step)⟩
  case round =>
    clear H'
    try clear c1
    try clear p2
    obtain ⟨x9_1, rfl, HA, HK1, ⟨m1, rfl⟩⟩ := hrel
    cases gk with
    | zero => exact absurd HA.out (by simp [impl_isIncreasing.l0])
    | succ k1 =>
      have H := HA.out
      clear HA
      simp only [impl_isIncreasing.l0] at H
      by_cases c3 : x9_1 < (l0.length : Int)
      · rw [if_pos c3] at H
        have c3b0 : decide (x9_1 < (l0.length : Int)) = true := decide_eq_true c3
        clear c3
        by_cases c4 : 0 ≤ x9_1
        · rw [if_pos c4] at H
          have c4b0 : decide (0 ≤ x9_1) = true := decide_eq_true c4
          clear c4
          by_cases c5 : x9_1 < (l0.length : Int)
          · rw [if_pos c5] at H
            have c5b0 : decide (x9_1 < (l0.length : Int)) = true := decide_eq_true c5
            clear c5
            replace H := Option.bind_eq_some_iff.mp H
            obtain ⟨t175, A60, H⟩ := H
            replace H : (if t175 = true then (if x9_1 > 0 then (if 0 ≤ (wrap64 (x9_1 - 1)) then (if (wrap64 (x9_1 - 1)) < (l0.length : Int) then (if (rd l0 x9_1) ≤ (rd l0 (wrap64 (x9_1 - 1))) then (some false) else (impl_isIncreasing.l0 k1 l0 a1 l0 (l0.length : Int) (wrap64 (x9_1 + 1)))) else (none)) else (none)) else (impl_isIncreasing.l0 k1 l0 a1 l0 (l0.length : Int) (wrap64 (x9_1 + 1)))) else (some false)) = some r := H
            have A6 := Aside0.mk A60
            clear A60
            by_cases c7 : t175 = true
            · subst c7
              have H1 : (if x9_1 > 0 then (if 0 ≤ (wrap64 (x9_1 - 1)) then (if (wrap64 (x9_1 - 1)) < (l0.length : Int) then (if (rd l0 x9_1) ≤ (rd l0 (wrap64 (x9_1 - 1))) then (some false) else (impl_isIncreasing.l0 k1 l0 a1 l0 (l0.length : Int) (wrap64 (x9_1 + 1)))) else (none)) else (none)) else (impl_isIncreasing.l0 k1 l0 a1 l0 (l0.length : Int) (wrap64 (x9_1 + 1)))) = some r := by rw [if_pos rfl] at H; exact H
              clear H
              have H := H1
              clear H1
              by_cases c8 : x9_1 > 0
              · rw [if_pos c8] at H
                have c8b0 : decide (0 < x9_1) = true := decide_eq_true c8
                clear c8
                obtain ⟨ji9, hji9⟩ : ∃ j_ : Int, (wrap64 (x9_1 - 1)) = j_ := ⟨_, rfl⟩
                replace H : (if 0 ≤ (ji9) then (if (ji9) < (l0.length : Int) then (if (rd l0 x9_1) ≤ (rd l0 (ji9)) then (some false) else (impl_isIncreasing.l0 k1 l0 a1 l0 (l0.length : Int) (wrap64 (x9_1 + 1)))) else (none)) else (none)) = some r := by first | (rw [hji9] at H; exact H) | (simp only [hji9] at H ⊢; exact H)
                (try rw [hji9] at A6)
                have hji9w : (IntKind.i64.wrap (x9_1 - 1)) = ji9 := (i64_w _).trans hji9
                by_cases c10 : 0 ≤ (ji9)
                · rw [if_pos c10] at H
                  have c10b0 : decide (0 ≤ (ji9)) = true := decide_eq_true c10
                  clear c10
                  by_cases c11 : (ji9) < (l0.length : Int)
                  · rw [if_pos c11] at H
                    have c11b0 : decide ((ji9) < (l0.length : Int)) = true := decide_eq_true c11
                    clear c11
                    by_cases c12 : (rd l0 x9_1) ≤ (rd l0 (ji9))
                    · rw [if_pos c12] at H
                      have c12b0 : decide ((rd l0 x9_1) ≤ (rd l0 (ji9))) = true := decide_eq_true c12
                      clear c12
                      obtain rfl := Option.some.inj H
                      have p174 : 0 ≤ (x9_1 : Int) := of_decide_eq_true (by first | (with_reducible assumption) | assumption)
                      have q174 : x9_1 < (l0.length : Int) := of_decide_eq_true (by first | (with_reducible assumption) | assumption)
                      obtain ⟨ad174, e174, hx174_0⟩ := Kd.at_int HR0.out x9_1 p174 q174
                      cases e174
                      replace p174 := eq_true p174
                      replace q174 := eq_true q174
                      go_wp2_with (first | ((with_reducible refine gate_callee (f := 78) rfl ?_); refine goesL_ (some 17) rfl rfl Try.func78 (by kernel_rfl) rfl #[.int .i64 (rd l0 x9_1), .int .i64 0, .int .i64 (wrap64 (a1 - 1))] rfl (by (try simp only [List.map_toArray, List.map_cons, List.map_nil]); first | done | rfl | (simp only [List.length_drop, List.length_take]; rfl)) ?_; (with_reducible refine (impl_within.calls (rd l0 x9_1) 0 (wrap64 (a1 - 1)) true _ A6.out).mono ?_); rintro e w' ⟨rfl, ⟨nd, rfl⟩⟩; refine ⟨_, rfl, ?_⟩; have p176 : 0 ≤ ((ji9) : Int) := of_decide_eq_true (by first | (with_reducible assumption) | assumption); have q176 : (ji9) < (l0.length : Int) := of_decide_eq_true (by first | (with_reducible assumption) | assumption); obtain ⟨ad176, e176, hx176_0⟩ := Kd.at_int HR0.out (ji9) p176 q176; obtain rfl : ad174 = ad176 := (by injection e176); replace p176 := eq_true p176; replace q176 := eq_true q176))
                      go_ret
                      exact ⟨by first | rfl | (simp; done) | (simp only [← hji9] <;> (first | rfl | simp)) | (simp [*]; done), by repeat (first | exact Drawn0.refl _ | apply Drawn0.step)⟩
                    · rw [if_neg c12] at H
                      have c12b0 : decide ((rd l0 x9_1) ≤ (rd l0 (ji9))) = false := decide_eq_false c12
                      clear c12
                      have H' := Aside0.mk H
                      clear H
                      have p174 : 0 ≤ (x9_1 : Int) := of_decide_eq_true (by first | (with_reducible assumption) | assumption)
                      have q174 : x9_1 < (l0.length : Int) := of_decide_eq_true (by first | (with_reducible assumption) | assumption)
                      obtain ⟨ad174, e174, hx174_0⟩ := Kd.at_int HR0.out x9_1 p174 q174
                      cases e174
                      replace p174 := eq_true p174
                      replace q174 := eq_true q174
                      go_wp2_with (first | ((with_reducible refine gate_callee (f := 78) rfl ?_); refine goesL_ (some 17) rfl rfl Try.func78 (by kernel_rfl) rfl #[.int .i64 (rd l0 x9_1), .int .i64 0, .int .i64 (wrap64 (a1 - 1))] rfl (by (try simp only [List.map_toArray, List.map_cons, List.map_nil]); first | done | rfl | (simp only [List.length_drop, List.length_take]; rfl)) ?_; (with_reducible refine (impl_within.calls (rd l0 x9_1) 0 (wrap64 (a1 - 1)) true _ A6.out).mono ?_); rintro e w' ⟨rfl, ⟨nd, rfl⟩⟩; refine ⟨_, rfl, ?_⟩; have p176 : 0 ≤ ((ji9) : Int) := of_decide_eq_true (by first | (with_reducible assumption) | assumption); have q176 : (ji9) < (l0.length : Int) := of_decide_eq_true (by first | (with_reducible assumption) | assumption); obtain ⟨ad176, e176, hx176_0⟩ := Kd.at_int HR0.out (ji9) p176 q176; obtain rfl : ad174 = ad176 := (by injection e176); replace p176 := eq_true p176; replace q176 := eq_true q176))
                      go_roundg k1
                      case measure => have := HK1.out; omega
                      case rel => exact ⟨(wrap64 (x9_1 + 1)), (by first | rfl | (simp; done) | (simp [*]; done)), H', ⟨by have := HK1.out; omega⟩, by repeat (first | exact Drawn0.refl _ | apply Drawn0.step)⟩
                  · rw [if_neg c11] at H
                    exact absurd H (by simp)
                · rw [if_neg c10] at H
                  exact absurd H (by simp)
              · rw [if_neg c8] at H
                have c8b0 : decide (0 < x9_1) = false := decide_eq_false c8
                clear c8
                have H' := Aside0.mk H
                clear H
                have p174 : 0 ≤ (x9_1 : Int) := of_decide_eq_true (by first | (with_reducible assumption) | assumption)
                have q174 : x9_1 < (l0.length : Int) := of_decide_eq_true (by first | (with_reducible assumption) | assumption)
                obtain ⟨ad174, e174, hx174_0⟩ := Kd.at_int HR0.out x9_1 p174 q174
                cases e174
                replace p174 := eq_true p174
                replace q174 := eq_true q174
                go_wp2_with (first | ((with_reducible refine gate_callee (f := 78) rfl ?_); refine goesL_ (some 17) rfl rfl Try.func78 (by kernel_rfl) rfl #[.int .i64 (rd l0 x9_1), .int .i64 0, .int .i64 (wrap64 (a1 - 1))] rfl (by (try simp only [List.map_toArray, List.map_cons, List.map_nil]); first | done | rfl | (simp only [List.length_drop, List.length_take]; rfl)) ?_; (with_reducible refine (impl_within.calls (rd l0 x9_1) 0 (wrap64 (a1 - 1)) true _ A6.out).mono ?_); rintro e w' ⟨rfl, ⟨nd, rfl⟩⟩; refine ⟨_, rfl, ?_⟩))
                go_roundg k1
                case measure => have := HK1.out; omega
                case rel => exact ⟨(wrap64 (x9_1 + 1)), (by first | rfl | (simp; done) | (simp [*]; done)), H', ⟨by have := HK1.out; omega⟩, by repeat (first | exact Drawn0.refl _ | apply Drawn0.step)⟩
            · replace c7 := Bool.eq_false_iff.mpr c7
              subst c7
              have H1 : (some false) = some r := by rw [if_neg (show ¬ (false = true) by decide)] at H; exact H
              clear H
              have H := H1
              clear H1
              obtain rfl := Option.some.inj H
              have p174 : 0 ≤ (x9_1 : Int) := of_decide_eq_true (by first | (with_reducible assumption) | assumption)
              have q174 : x9_1 < (l0.length : Int) := of_decide_eq_true (by first | (with_reducible assumption) | assumption)
              obtain ⟨ad174, e174, hx174_0⟩ := Kd.at_int HR0.out x9_1 p174 q174
              cases e174
              replace p174 := eq_true p174
              replace q174 := eq_true q174
              go_wp2_with (first | ((with_reducible refine gate_callee (f := 78) rfl ?_); refine goesL_ (some 17) rfl rfl Try.func78 (by kernel_rfl) rfl #[.int .i64 (rd l0 x9_1), .int .i64 0, .int .i64 (wrap64 (a1 - 1))] rfl (by (try simp only [List.map_toArray, List.map_cons, List.map_nil]); first | done | rfl | (simp only [List.length_drop, List.length_take]; rfl)) ?_; (with_reducible refine (impl_within.calls (rd l0 x9_1) 0 (wrap64 (a1 - 1)) false _ A6.out).mono ?_); rintro e w' ⟨rfl, ⟨nd, rfl⟩⟩; refine ⟨_, rfl, ?_⟩))
              go_ret
              exact ⟨by first | rfl | (simp; done) | (simp [*]; done), by repeat (first | exact Drawn0.refl _ | apply Drawn0.step)⟩
          · rw [if_neg c5] at H
            exact absurd H (by simp)
        · rw [if_neg c4] at H
          exact absurd H (by simp)
      · rw [if_neg c3] at H
        have c3b0 : decide (x9_1 < (l0.length : Int)) = false := decide_eq_false c3
        clear c3
        obtain rfl := Option.some.inj H
        go_wp2
        go_ret
        exact ⟨by first | rfl | (simp; done) | (simp [*]; done), by repeat (first | exact Drawn0.refl _ | apply Drawn0.step)⟩

end Go.Proofs.Ytggiajjnfldkgaa.PFnExactPartOf
