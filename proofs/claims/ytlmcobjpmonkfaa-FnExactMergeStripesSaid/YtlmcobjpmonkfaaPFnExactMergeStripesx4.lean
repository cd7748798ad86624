-- Laid by a program of this session.
import Derived.Test.YtlmcobjpmonkfaaPFnExactMergeStripesx0
import Derived.Test.YtlmcobjpmonkfaaPFnExactMergeStripesx3
namespace Go.Proofs.Ytlmcobjpmonkfaa.PFnExactMergeStripes
open Go.RowKit Go.Proofs.YtlmcobjpmonkfaaW.PrintWords Go.Proofs.YtlmcobjpmonkfaaW.PrintLast Go.Proofs.YtlmcobjpmonkfaaW.PrintMore
attribute [local go_sem] max2_int min2_int max_two min_two max_three min_three max_four min_four   -- for this text's walks alone
set_option linter.unusedVariables false
set_option linter.unusedSimpArgs false

/-! ### spec_l6Plus: function 72 (by hand) -/
section
open Go.Proofs.Ytlmcobjpmonkfaa.KitW
def spec_l6Plus.l (k : Nat) (a0 : ByteArray) (a1 : Int) (a2 : ByteArray) : Nat → Option (List Int)
 | 0 => some []
 | n + 1 => (spec_l6Plus.l k a0 a1 a2 n).bind fun xs => (spec_l1Times.f k a1 (bt a2 (n : Int))).bind fun t => some (xs ++ [bits .xor .u8 (bt a0 (n : Int)) t])
def spec_l6Plus.f (k : Nat) (a0 : ByteArray) (a1 : Int) (a2 : ByteArray) : Option ByteArray := if a0.size ≤ 140737488355328 ∧ a0.size ≤ a2.size then (spec_l6Plus.l k a0 a1 a2 a0.size).bind fun t => some (strOfNums t) else none
theorem spec_l6Plus.mono_l (a0 : ByteArray) (a1 : Int) (a2 : ByteArray) (k : Nat) : ∀ n, LeO (spec_l6Plus.l k a0 a1 a2 n) (spec_l6Plus.l (k + 1) a0 a1 a2 n)
 | 0 => LeO.refl _
 | n + 1 => LeO.bind (spec_l6Plus.mono_l a0 a1 a2 k n) (fun _ => LeO.bind (spec_l1Times.mono _ _ _) (fun _ => LeO.refl _))
theorem spec_l6Plus.mono : ∀ a0 a1 a2 k, LeO (spec_l6Plus.f k a0 a1 a2) (spec_l6Plus.f (k + 1) a0 a1 a2) := by
 intro a0 a1 a2 k
 unfold spec_l6Plus.f
 exact LeO.ite (LeO.bind (spec_l6Plus.mono_l _ _ _ _ _) (fun _ => LeO.refl _)) (LeO.refl _)
theorem spec_l6Plus.len {k : Nat} {a0 : ByteArray} {a1 : Int} {a2 : ByteArray} : ∀ {n : Nat} {xs : List Int}, spec_l6Plus.l k a0 a1 a2 n = some xs → xs.length = n
 | 0, xs, h => by obtain rfl := Option.some.inj h; rfl
 | n + 1, xs, h => by
  obtain ⟨ys, h1, h⟩ := Option.bind_eq_some_iff.mp h
  obtain ⟨t, h2, h⟩ := Option.bind_eq_some_iff.mp h
  obtain rfl := Option.some.inj h
  have := spec_l6Plus.len h1
  simp [this]
/-- What the row holds in round i. -/
def l6cell (a0 : ByteArray) (xs : List Int) (j : Nat) : Int := if j < xs.length then xs.getD j 0 else bt a0 (j : Int)
def L6 (k : Nat) (a0 : ByteArray) (a1 : Int) (a2 : ByteArray) (w : World) (i : Nat) (xs : List Int) (wr : World) : Prop :=
 spec_l6Plus.l k a0 a1 a2 i = some xs ∧ Below w.heap.size w wr ∧ w.heap.size < wr.heap.size ∧ (∀ j, j < a0.size → wr.cell? ⟨w.heap.size, j, none⟩ = some (.int .u8 (l6cell a0 xs j)) ∧ wr.frozen? ⟨w.heap.size, j, none⟩ = false)
theorem L6_start (k : Nat) (a0 : ByteArray) (a1 : Int) (a2 : ByteArray) (w : World) : L6 k a0 a1 a2 w 0 [] (Lib.bytesWorld w 5 a0) := by
 refine ⟨rfl, bytes_below (Below.refl _ _) (Nat.le_refl _) _ _, by rw [Lib.bytesWorld_size]; omega, fun j hj => ⟨?_, ?_⟩⟩
 ·rw [Lib.bytesWorld_cell w 5 a0 j hj]
  simp only [l6cell, List.length_nil, Nat.not_lt_zero, if_false]
  rw [← bt_at a0 (j : Int) (by simpa using hj)]
  have hj' : j < a0.data.toList.length := by rw [data_length]; exact hj
  simp only [List.getD_eq_getElem?_getD, List.getElem?_eq_getElem hj']
  simp only [Option.getD_some, Int.toNat_natCast]
  rfl
 ·have hz : a0.size ≤ (Lib.bytesCells w 5 a0).size := by
   unfold Lib.bytesCells
   rw [Array.size_append, Array.size_map]
   exact Nat.le_add_right _ _
  simp only [World.frozen?, Lib.bytesWorld_at_new]
  rw [show decide ((Lib.bytesCells w 5 a0).size ≤ j) = false from decide_eq_false (by omega), Bool.false_and]
theorem L6_drewN {k : Nat} {a0 : ByteArray} {a1 : Int} {a2 : ByteArray} {w wr : World} {i : Nat} {xs : List Int} (h : L6 k a0 a1 a2 w i xs wr) (n : Nat) : L6 k a0 a1 a2 w i xs (wr.drewN n) :=
 ⟨h.1, pw_below_drewN h.2.1 n, h.2.2.1, h.2.2.2⟩
theorem L6_drew {k : Nat} {a0 : ByteArray} {a1 : Int} {a2 : ByteArray} {w wr : World} {i : Nat} {xs : List Int} (h : L6 k a0 a1 a2 w i xs wr) : L6 k a0 a1 a2 w i xs wr.drew :=
 ⟨h.1, below_drew1 h.2.1, h.2.2.1, h.2.2.2⟩
theorem L6_step {k : Nat} {a0 : ByteArray} {a1 : Int} {a2 : ByteArray} {w wr : World} {i : Nat} {xs : List Int} {t : Int} (h : L6 k a0 a1 a2 w i xs wr) (hi : i < a0.size) (ht : spec_l1Times.f k a1 (bt a2 (i : Int)) = some t) :
  L6 k a0 a1 a2 w (i + 1) (xs ++ [bits .xor .u8 (bt a0 (i : Int)) t]) (wr.setCell ⟨w.heap.size, i, none⟩ (.int .u8 (bits .xor .u8 (bt a0 (i : Int)) t))) := by
 obtain ⟨h1, h2, h3, h4⟩ := h
 have hl := spec_l6Plus.len h1
 refine ⟨?_, below_set h2 (Nat.le_refl _), by simpa using h3, fun j hj => ⟨?_, ?_⟩⟩
 ·show (spec_l6Plus.l k a0 a1 a2 i).bind _ = _
  rw [h1]; simp only [Option.bind_some]; rw [ht]; rfl
 ·by_cases e : j = i
  ·subst e
   rw [World.cell?_setCell_same _ _ _ (h4 j hj).1]
   unfold l6cell
   rw [if_pos (by simp [hl])]
   simp [List.getD_eq_getElem?_getD, hl]
  ·rw [World.cell?_setCell_other _ _ _ _ (by intro e2; injection e2 with _ e2 _; exact e e2.symm), (h4 j hj).1]
   unfold l6cell
   by_cases c : j < i
   ·rw [if_pos (by omega), if_pos (by simp; omega), List.getD_eq_getElem?_getD, List.getD_eq_getElem?_getD, List.getElem?_append_left (by omega)]
   ·rw [if_neg (by omega), if_neg (by simp; omega)]
 ·rw [World.frozen?_setCell]
  exact (h4 j hj).2
theorem l6at {k : Nat} {a0 : ByteArray} {a1 : Int} {a2 : ByteArray} : ∀ {n : Nat} {xs : List Int}, spec_l6Plus.l k a0 a1 a2 n = some xs → ∀ i, i < n → ∃ t, spec_l1Times.f k a1 (bt a2 (i : Int)) = some t
 | 0, xs, _, i, hi => absurd hi (Nat.not_lt_zero _)
 | n + 1, xs, h, i, hi => by
  obtain ⟨ys, h1, h⟩ := Option.bind_eq_some_iff.mp h
  obtain ⟨t, h2, h⟩ := Option.bind_eq_some_iff.mp h
  by_cases e : i = n
  ·exact e ▸ ⟨t, h2⟩
  ·exact l6at h1 i (by omega)
set_option maxHeartbeats 4000000 in
set_option maxRecDepth 100000 in
theorem spec_l6Plus.calls (k : Nat) (a0 : ByteArray) (a1 : Int) (a2 : ByteArray) (r : ByteArray) (w : World) (h : spec_l6Plus.f k a0 a1 a2 = some r) :
  Calls Try.prog 72 #[.string a0, .int .u8 a1, .string a2] w fun e w' => e = .returned (.string r) ∧ Below w.heap.size w w' := by
 unfold spec_l6Plus.f at h
 by_cases hs : a0.size ≤ 140737488355328 ∧ a0.size ≤ a2.size
 ·rw [if_pos hs] at h
  replace h := Option.bind_eq_some_iff.mp h
  obtain ⟨x, hx, h⟩ := h
  obtain rfl := Option.some.inj h
  clear h
  have HX := Aside0.mk hx
  have HS := Aside0.mk hs
  clear hx hs
  have kb0 := fun W => print_bytes (P := Try.prog) 9 76 5 Try.underlying9 Try.underlying76 Try.underlying5 a0 W
  go_enter Try.func72, Try.ntmps72
  go_wp2
  have HL := Aside0.mk (L6_start k a0 a1 a2 w)
  clear kb0
  have hcap := Aside0.mk (bytes_cap w a0.size 5)
  generalize Lib.bytesWorld w 5 a0 = W0 at HL ⊢
  generalize grownCap w a0.size 0 5 = cap at hcap ⊢
  go_loopw [8, 13] (fun _ v13 wr => ∃ i : Nat, i ≤ a0.size ∧ v13 = .int .i64 i ∧ Aside0 (∃ xs, L6 k a0 a1 a2 w i xs wr)) (fun _ v13 _ => a0.size - (intOf v13).toNat)
  case atStart => exact ⟨0, Nat.zero_le _, rfl, ⟨⟨_, HL.out⟩⟩⟩
  case round =>
   obtain ⟨i, hi, rfl, HR⟩ := hrel
   obtain ⟨xs, hR⟩ := HR.out
   clear HR
   by_cases hlt : i < a0.size
   ·obtain ⟨t, ht⟩ := l6at HX.out i hlt
    have hc := (hR.2.2.2 i hlt).1
    have hf := (hR.2.2.2 i hlt).2
    have hl := spec_l6Plus.len hR.1
    rw [show l6cell a0 xs i = bt a0 (i : Int) by unfold l6cell; rw [if_neg (by omega)]] at hc
    have HR := Aside0.mk hR
    have HT := Aside0.mk ht
    clear hR ht hl
    have hz1 : (0 : Int) ≤ (i : Int) := by omega
    have hz2 : (i : Int) < (a0.size : Int) := by omega
    have hz3 : (i : Int) < (a2.size : Int) := by have := HS.out.2; omega
    have hz4 : i < a2.size := by have := HS.out.2; omega
    have hbt : ∀ h : i < a2.size, ((a2[i]'h).toNat : Int) = bt a2 (i : Int) := fun h => bt_at a2 (i : Int) h
    have hz5 : (i : Int) ≤ 140737488355328 := by have := HS.out.1; omega
    go_wp2
    refine start_ (n := 12) (S := fun w' => w'.cell? ⟨w.heap.size, i, none⟩ = some (.int .u8 (bt a0 (i : Int)))) (ds := [11]) #[false, false, false, false, false, false, false, false, false, false, false, false] (by kernel_rfl) rfl rfl hc (fun hHeld => ?_)
    generalize hq : wr.drew = wd at hHeld ⊢
    replace HR : Aside0 (L6 k a0 a1 a2 w i xs wd) := ⟨by rw [← hq]; exact L6_drew HR.out⟩
    clear hq hc hf
    refine pure_ (i := 0) (N := some 16) (v := ?_) (a' := ?_) #[true, false, false, false, false, false, false, false, false, false, false, false] rfl rfl (by kernel_rfl) (fun _ _ _ h => h) (Or.inl ⟨by rfl, ?_⟩) ?_ ?_
    rotate_left
    ·intro w'
     go_simp
     with_reducible rfl
    rotate_left
    ·simp only [Act.put, List.setIfInBounds_toArray, List.set_cons_zero, List.set_cons_succ, i64_w, i32_w]
     rfl
    refine pure_ (i := 1) (N := some 17) (v := ?_) (a' := ?_) #[true, true, false, false, false, false, false, false, false, false, false, false] rfl rfl (by kernel_rfl) (fun _ _ _ h => h) (Or.inl ⟨by rfl, ?_⟩) ?_ ?_
    rotate_left
    ·intro w'
     go_simp
     with_reducible rfl
    rotate_left
    ·simp only [Act.put, List.setIfInBounds_toArray, List.set_cons_zero, List.set_cons_succ, i64_w, i32_w]
     rfl
    refine pure_ (i := 2) (N := some 18) (v := ?_) (a' := ?_) #[true, true, true, false, false, false, false, false, false, false, false, false] rfl rfl (by kernel_rfl) (fun _ _ _ h => h) (Or.inl ⟨by rfl, ?_⟩) ?_ ?_
    rotate_left
    ·intro w'
     go_simp
     with_reducible rfl
    rotate_left
    ·simp only [Act.put, List.setIfInBounds_toArray, List.set_cons_zero, List.set_cons_succ, i64_w, i32_w]
     rfl
    refine pure_ (i := 4) (N := some 20) (v := ?_) (a' := ?_) #[true, true, true, false, true, false, false, false, false, false, false, false] rfl rfl (by kernel_rfl) (fun _ _ _ h => h) (Or.inl ⟨by rfl, ?_⟩) ?_ ?_
    rotate_left
    ·intro w'
     go_simp
     with_reducible rfl
    rotate_left
    ·simp only [Act.put, List.setIfInBounds_toArray, List.set_cons_zero, List.set_cons_succ, i64_w, i32_w]
     rfl
    refine pure_ (i := 5) (N := some 21) (v := ?_) (a' := ?_) #[true, true, true, false, true, true, false, false, false, false, false, false] rfl rfl (by kernel_rfl) (fun _ _ _ h => h) (Or.inl ⟨by rfl, ?_⟩) ?_ ?_
    rotate_left
    ·intro w'
     go_simp
     with_reducible rfl
    rotate_left
    ·simp only [Act.put, List.setIfInBounds_toArray, List.set_cons_zero, List.set_cons_succ, i64_w, i32_w]
     rfl
    refine pure_ (i := 6) (N := some 22) (v := ?_) (a' := ?_) #[true, true, true, false, true, true, true, false, false, false, false, false] rfl rfl (by kernel_rfl) (fun _ _ _ h => h) (Or.inl ⟨by rfl, ?_⟩) ?_ ?_
    rotate_left
    ·intro w'
     go_simp
     with_reducible rfl
    rotate_left
    ·simp only [Act.put, List.setIfInBounds_toArray, List.set_cons_zero, List.set_cons_succ, i64_w, i32_w]
     rfl
    refine take_ (i := 3) (N := some 19) (v := ?_) (a' := ?_) #[true, true, true, true, true, true, true, false, false, false, false, false] rfl rfl (by kernel_rfl) (fun _ _ _ h => h) (Or.inl ⟨by rfl, ?_⟩) hHeld ?_ ?_
    rotate_left
    ·rintro w' s0
     go_simp
     with_reducible rfl
    rotate_left
    ·simp only [Act.put, List.setIfInBounds_toArray, List.set_cons_zero, List.set_cons_succ, i64_w, i32_w]
     rfl
    refine take_ (i := 7) (N := some 23) (v := ?_) (a' := ?_) #[true, true, true, true, true, true, true, true, false, false, false, false] rfl rfl (by kernel_rfl) (fun _ _ _ h => h) (Or.inl ⟨by rfl, ?_⟩) hHeld ?_ ?_
    rotate_left
    ·rintro w' s0
     go_simp
     with_reducible rfl
    rotate_left
    ·simp only [Act.put, List.setIfInBounds_toArray, List.set_cons_zero, List.set_cons_succ, i64_w, i32_w]
     rfl
    refine one_ (i := 8) (N := some 24) #[true, true, true, true, true, true, true, true, true, false, false, false] rfl rfl (by kernel_rfl) (by decide) (fun K hK => ?_)
    refine goes_ Try.func130 (by kernel_rfl) rfl #[.int .u8 a1, .int .u8 (bt a2 (i : Int))] (by rfl) rfl rfl (by (try simp only [List.map_toArray, List.map_cons, List.map_nil]); first | done | rfl | (simp only [List.length_drop, List.length_take]; rfl)) ?_
    with_reducible refine (spec_l1Times.calls k a1 (bt a2 (i : Int)) t _ HT.out).mono ?_
    rintro e w' ⟨rfl, ⟨nd, rfl⟩⟩
    refine ⟨_, rfl, ?_⟩
    generalize hq : wd.drewN nd = we
    replace HR : Aside0 (L6 k a0 a1 a2 w i xs we) := ⟨by rw [← hq]; exact L6_drewN HR.out nd⟩
    clear hq
    have hcf := HR.out.2.2.2 i hlt
    rw [show l6cell a0 xs i = bt a0 (i : Int) by have hl := spec_l6Plus.len HR.out.1; unfold l6cell; rw [if_neg (by omega)]] at hcf
    obtain ⟨hc, hf⟩ := hcf
    refine hK.out _ _ hc (fun hHeld => ?_)
    clear hK K
    refine norm_ (a' := ?_) ?_ ?_
    rotate_left
    ·show Act.put _ (some 24) _ = _
     simp only [Act.put, List.setIfInBounds_toArray, List.set_cons_zero, List.set_cons_succ, i64_w, i32_w]
     rfl
    refine pure_ (i := 9) (N := some 25) (v := ?_) (a' := ?_) #[true, true, true, true, true, true, true, true, true, true, false, false] rfl rfl (by kernel_rfl) (fun _ _ _ h => h) (Or.inl ⟨by rfl, ?_⟩) ?_ ?_
    rotate_left
    ·intro w'
     go_simp
     with_reducible rfl
    rotate_left
    ·simp only [Act.put, List.setIfInBounds_toArray, List.set_cons_zero, List.set_cons_succ, i64_w, i32_w]
     rfl
    refine pure_ (i := 10) (N := some 26) (v := ?_) (a' := ?_) #[true, true, true, true, true, true, true, true, true, true, true, false] rfl rfl (by kernel_rfl) (fun _ _ _ h => h) (Or.inl ⟨by rfl, ?_⟩) ?_ ?_
    rotate_left
    ·intro w'
     go_simp
     with_reducible rfl
    rotate_left
    ·simp only [Act.put, List.setIfInBounds_toArray, List.set_cons_zero, List.set_cons_succ, i64_w, i32_w]
     rfl
    refine last_ (i := 11) (N := none) #[true, true, true, true, true, true, true, true, true, true, true, true] rfl rfl (by kernel_rfl) (by decide) (fun K hK => ?_)
    refine skip_ (w1 := ?_) (by rfl) rfl ?_ ?_
    rotate_left
    ·go_simp
     rfl
    refine hK.out _ _ ?_
    clear hK K
    refine done_ (by kernel_rfl) ?_
    have HN := Aside0.mk (L6_step HR.out hlt HT.out)
    clear hc hf HR
    go_wp2
    go_roundw
    case rel => exact ⟨i + 1, by omega, by go_num, ⟨_, HN.out⟩⟩
    case measure => simp [intOf]; omega
   ·have e : i = a0.size := by omega
    subst e
    have ex : xs = x := Option.some.inj (hR.1.symm.trans HX.out)
    subst ex
    have hl := spec_l6Plus.len hR.1
    have hrd : Kd.C (Kd.int .u8) wr (some ⟨w.heap.size, 0, none⟩) a0.size xs := by
     refine Kd.C_of_reads (enc := Value.int .u8) (d := (0 : Int)) ⟨hl, by have := HS.out.1; omega, fun _ => ⟨_, rfl, fun j hj => ?_⟩⟩
     rw [add_plain, (hR.2.2.2 j hj).1]
     unfold l6cell
     rw [if_pos (by omega)]
    have hk := fun c => Kd.C_string (P := Try.prog) (src := 76) (dst := 9) (c := c) Try.underlying76 Try.underlying5 Try.underlying9 hrd
    have HB := Aside0.mk hR.2.1
    clear hR hrd hl
    go_wp2
    go_ret
    exact ⟨rfl, HB.out⟩
 ·rw [if_neg hs] at h
  cases h
end

/-! ### spec_l1Power: function 91 -/
def spec_l1Power.l0 : Nat → Int → Int → Int → Option (Int)
 | 0, _, _, _ => none
 | k + 1, x0, x1, x5 => if x1 > 0 then ((spec_l1Times.f k x5 x0).bind fun t158 => (spec_l1Power.l0 k x0 (wrap64 (x1 - 1)) t158)) else (some x5)
def spec_l1Power.f (k : Nat) (a0 : Int) (a1 : Int) : Option (Int) := spec_l1Power.l0 k a0 a1 1
theorem spec_l1Power.mono_l : ∀ k, (∀ y0 y1 y2, LeO (spec_l1Power.l0 k y0 y1 y2) (spec_l1Power.l0 (k + 1) y0 y1 y2))
 | 0 => fun _ _ _ r h => by simp [spec_l1Power.l0] at h
 | k + 1 => by
  have ih0 := spec_l1Power.mono_l k
  ·intro y0 y1 y2
   unfold spec_l1Power.l0
   repeat' first
   | (with_reducible exact ih0 _ _ _)
   | (with_reducible exact spec_l1Times.mono _ _ _)
   | (with_reducible exact LeO.refl _)
   | (with_reducible exact LeO.none _)
   | (with_reducible refine LeO.ite ?_ ?_)
   | (with_reducible refine LeO.bind ?_ (fun _ => ?_))
   | exact ih0 _ _ _
   | exact spec_l1Times.mono _ _ _
   | exact LeO.none _
   | refine LeO.ite ?_ ?_
   | refine LeO.bind ?_ (fun _ => ?_)
theorem spec_l1Power.mono : ∀ a0 a1 k, LeO (spec_l1Power.f k a0 a1) (spec_l1Power.f (k + 1) a0 a1) := by
 intro a0 a1 k
 have ih0 := spec_l1Power.mono_l k
 unfold spec_l1Power.f
 repeat' first
   | (with_reducible exact ih0 _ _ _)
   | (with_reducible exact spec_l1Times.mono _ _ _)
   | (with_reducible exact LeO.refl _)
   | (with_reducible exact LeO.none _)
   | (with_reducible refine LeO.ite ?_ ?_)
   | (with_reducible refine LeO.bind ?_ (fun _ => ?_))
   | exact ih0 _ _ _
   | exact spec_l1Times.mono _ _ _
   | exact LeO.none _
   | refine LeO.ite ?_ ?_
   | refine LeO.bind ?_ (fun _ => ?_)
set_option maxHeartbeats 8000000 in
set_option maxRecDepth 100000 in
theorem spec_l1Power.calls (k : Nat) (a0 : Int) (a1 : Int) (r : Int) (w : World) (h : spec_l1Power.f k a0 a1 = some r) :
  Calls Try.prog 91 #[.int .u8 a0, .int .i64 a1] w fun e w' => e = .returned (.int .u8 r) ∧ Drawn0 w w' := by
 have H : (spec_l1Power.l0 k a0 a1 1) = some r := h
 clear h
 have H' := Aside0.mk H
 clear H
 go_enter Try.func91, Try.ntmps91
 go_wp2
 go_loopg [1, 5] k (fun kq v1 v5 w' => ∃ (x1_1 : Int) (x5_1 : Int), v1 = .int .i64 x1_1 ∧ v5 = .int .u8 x5_1 ∧ Aside0 (spec_l1Power.l0 kq a0 x1_1 x5_1 = some r) ∧ Aside0 (kq ≤ k) ∧ Drawn0 w w')
 case atStart => exact ⟨(a1), (1), (by first | rfl | (simp; done) | (simp [*]; done)), (by first | rfl | (simp; done) | (simp [*]; done)), H', ⟨Nat.le_refl _⟩, by repeat (first | exact Drawn0.refl _ | apply Drawn0.step)⟩
 case round =>
  clear H'
  try clear p2
  obtain ⟨x1_1, x5_1, rfl, rfl, HA, HK1, ⟨m1, rfl⟩⟩ := hrel
  cases gk with
  | zero => exact absurd HA.out (by simp [spec_l1Power.l0])
  | succ k1 =>
   have H := HA.out
   clear HA
   simp only [spec_l1Power.l0] at H
   by_cases c3 : x1_1 > 0
   ·rw [if_pos c3] at H
    have c3b0 : decide (0 < x1_1) = true := decide_eq_true c3
    clear c3
    replace H := Option.bind_eq_some_iff.mp H
    obtain ⟨t158, A40, H⟩ := H
    replace H : (spec_l1Power.l0 k1 a0 (wrap64 (x1_1 - 1)) t158) = some r := H
    have A4 := Aside0.mk A40
    clear A40
    have H' := Aside0.mk H
    clear H
    go_wp2_with (first | ((with_reducible refine gate_callee (f := 130) rfl ?_); refine goesL_ (some 12) rfl rfl Try.func130 (by kernel_rfl) rfl #[.int .u8 x5_1, .int .u8 a0] rfl (by (try simp only [List.map_toArray, List.map_cons, List.map_nil]); first | done | rfl | (simp only [List.length_drop, List.length_take]; rfl)) ?_; (with_reducible refine (spec_l1Times.calls k1 x5_1 a0 t158 _ A4.out).mono ?_); rintro e w' ⟨rfl, ⟨nd, rfl⟩⟩; refine ⟨_, rfl, ?_⟩))
    go_roundg k1
    case measure => have := HK1.out; omega
    case rel => exact ⟨(wrap64 (x1_1 - 1)), (t158), (by first | rfl | (simp; done) | (simp [*]; done)), (by first | rfl | (simp; done) | (simp [*]; done)), H', ⟨by have := HK1.out; omega⟩, by repeat (first | exact Drawn0.refl _ | apply Drawn0.step)⟩
   ·rw [if_neg c3] at H
    have c3b0 : decide (0 < x1_1) = false := decide_eq_false c3
    clear c3
    obtain rfl := Option.some.inj H
    go_wp2
    go_ret
    exact ⟨by first | rfl | (simp; done) | (simp [*]; done), by repeat (first | exact Drawn0.refl _ | apply Drawn0.step)⟩

end Go.Proofs.Ytlmcobjpmonkfaa.PFnExactMergeStripes
-- HALVED
