-- Laid by a program of this session.
import Derived.Test.YtelkciakdhiicaaPFnFieldx0
import Derived.Test.YtelkciakdhiicaaPFnFieldx1
import Derived.Test.YtelkciakdhiicaaPFnFieldx2
namespace Go.Proofs.Ytelkciakdhiicaa.PFnField
open Go.RowKit Go.Proofs.YtelkciakdhiicaaW.PrintWords Go.Proofs.YtelkciakdhiicaaW.PrintLast Go.Proofs.YtelkciakdhiicaaW.PrintMore
attribute [local go_sem] max2_int min2_int max_two min_two max_three min_three max_four min_four   -- for this text's walks alone
set_option linter.unusedVariables false
set_option linter.unusedSimpArgs false

/-! ### laws_FnField: function 5 -/
mutual
def laws_FnField.j0 : Nat → Int → Int → Int → Int → Bool → Option (Bool)
  | 0, _, _, _, _, _ => none
  | k + 1, x5, x6, x7, x8, x56 => if x56 = true then (some false) else ((impl_Times.f k x5 x6).bind fun t150 => ((impl_Times.f k t150 x7).bind fun t151 => ((impl_Times.f k x6 x7).bind fun t152 => ((impl_Times.f k x5 t152).bind fun t153 => (if t151 = t153 then ((impl_Times.f k x5 (Go.bits .xor .u8 x6 x7)).bind fun t154 => ((impl_Times.f k x5 x6).bind fun t155 => ((impl_Times.f k x5 x7).bind fun t156 => (laws_FnField.j1 k x5 x7 x8 (t154 != (Go.bits .xor .u8 t155 t156)))))) else (laws_FnField.j1 k x5 x7 x8 true))))))
def laws_FnField.j1 : Nat → Int → Int → Int → Bool → Option (Bool)
  | 0, _, _, _, _ => none
  | k + 1, x5, x7, x8, x82 => if x82 = true then (some false) else (if x5 = 0 then (laws_FnField.j2 k x5 x7 x8 false) else ((impl_Inverse.f k x5).bind fun t157 => ((impl_Times.f k x5 t157).bind fun t158 => (if t158 = 1 then ((impl_Inverse.f k x5).bind fun t159 => ((spec_Inverse.f k x5).bind fun t160 => (laws_FnField.j2 k x5 x7 x8 (t159 != t160)))) else (laws_FnField.j2 k x5 x7 x8 true)))))
def laws_FnField.j2 : Nat → Int → Int → Int → Bool → Option (Bool)
  | 0, _, _, _, _ => none
  | k + 1, x5, x7, x8, x98 => if x98 = true then (some false) else ((impl_Power.f k x7 x8).bind fun bt161 => ((spec_Power.f k x7 x8).bind fun bt163 => ((impl_LogOf.f k x5).bind fun bt165 => ((spec_LogOf.f k x5).bind fun bt167 => (if (bt161.2 != bt163.2) = true then (laws_FnField.j3 k x5 bt165.1 bt165.2 true) else (if bt161.1 = bt163.1 then (if (bt165.2 != bt167.2) = true then (laws_FnField.j3 k x5 bt165.1 bt165.2 true) else (if bt165.1 = bt167.1 then (laws_FnField.j3 k x5 bt165.1 bt165.2 (bt165.2 != (x5 != 0))) else (laws_FnField.j3 k x5 bt165.1 bt165.2 true))) else (laws_FnField.j3 k x5 bt165.1 bt165.2 true)))))))
def laws_FnField.j3 : Nat → Int → Int → Bool → Bool → Option (Bool)
  | 0, _, _, _, _ => none
  | k + 1, x5, x13, x14, x144 => if x144 = true then (some false) else (if x14 = true then ((impl_Power.f k 3 x13).bind fun bt169 => (if bt169.2 = true then (if bt169.1 = x5 then (some (decide (x13 < 255))) else (some false)) else (some false))) else (some (x13 == 0)))
end
def laws_FnField.f (k : Nat) (l0 : List Int) (l1 : List Int) : Option (Bool) := if (wrap64 ((l0.length : Int) + (l1.length : Int))) > 1048576 then (some true) else ((spec_DrawTimes.f l0).bind fun bt141 => ((spec_DrawPower.f l1).bind fun bt143 => ((impl_Times.f k bt141.1 bt141.2).bind fun t145 => ((spec_Times.f k bt141.1 bt141.2).bind fun t146 => (if t145 = t146 then ((impl_Times.f k bt141.1 bt141.2).bind fun t147 => ((impl_Times.f k bt141.2 bt141.1).bind fun t148 => (if t147 = t148 then ((impl_Times.f k bt141.1 1).bind fun t149 => (laws_FnField.j0 k bt141.1 bt141.2 bt143.1 bt143.2 (t149 != bt141.1))) else (laws_FnField.j0 k bt141.1 bt141.2 bt143.1 bt143.2 true)))) else (laws_FnField.j0 k bt141.1 bt141.2 bt143.1 bt143.2 true))))))
theorem laws_FnField.mono_l : ∀ k, (∀ y0 y1 y2 y3 y4, LeO (laws_FnField.j0 k y0 y1 y2 y3 y4) (laws_FnField.j0 (k + 1) y0 y1 y2 y3 y4)) ∧ (∀ y0 y1 y2 y3, LeO (laws_FnField.j1 k y0 y1 y2 y3) (laws_FnField.j1 (k + 1) y0 y1 y2 y3)) ∧ (∀ y0 y1 y2 y3, LeO (laws_FnField.j2 k y0 y1 y2 y3) (laws_FnField.j2 (k + 1) y0 y1 y2 y3)) ∧ (∀ y0 y1 y2 y3, LeO (laws_FnField.j3 k y0 y1 y2 y3) (laws_FnField.j3 (k + 1) y0 y1 y2 y3))
  | 0 => ⟨fun _ _ _ _ _ r h => by simp [laws_FnField.j0] at h, fun _ _ _ _ r h => by simp [laws_FnField.j1] at h, fun _ _ _ _ r h => by simp [laws_FnField.j2] at h, fun _ _ _ _ r h => by simp [laws_FnField.j3] at h⟩
  | k + 1 => by
    obtain ⟨ih0, ih1, ih2, ih3⟩ := laws_FnField.mono_l k
    refine ⟨?_, ?_, ?_, ?_⟩
    · intro y0 y1 y2 y3 y4
      unfold laws_FnField.j0
      repeat' first
      | (with_reducible exact ih0 _ _ _ _ _)
      | (with_reducible exact ih1 _ _ _ _)
      | (with_reducible exact ih2 _ _ _ _)
      | (with_reducible exact ih3 _ _ _ _)
      | (with_reducible exact impl_Inverse.mono _ _)
      | (with_reducible exact impl_LogOf.mono _ _)
      | (with_reducible exact impl_Power.mono _ _ _)
      | (with_reducible exact impl_Times.mono _ _ _)
      | (with_reducible exact spec_Inverse.mono _ _)
      | (with_reducible exact spec_LogOf.mono _ _)
      | (with_reducible exact spec_Power.mono _ _ _)
      | (with_reducible exact spec_Times.mono _ _ _)
      | (with_reducible exact LeO.refl _)
      | (with_reducible exact LeO.none _)
      | (with_reducible refine LeO.ite ?_ ?_)
      | (with_reducible refine LeO.bind ?_ (fun _ => ?_))
      | exact ih0 _ _ _ _ _
      | exact ih1 _ _ _ _
      | exact ih2 _ _ _ _
      | exact ih3 _ _ _ _
      | exact impl_Inverse.mono _ _
      | exact impl_LogOf.mono _ _
      | exact impl_Power.mono _ _ _
      | exact impl_Times.mono _ _ _
      | exact spec_Inverse.mono _ _
      | exact spec_LogOf.mono _ _
      | exact spec_Power.mono _ _ _
      | exact spec_Times.mono _ _ _
      | exact LeO.none _
      | refine LeO.ite ?_ ?_
      | refine LeO.bind ?_ (fun _ => ?_)
    · intro y0 y1 y2 y3
      unfold laws_FnField.j1
      repeat' first
      | (with_reducible exact ih0 _ _ _ _ _)
      | (with_reducible exact ih1 _ _ _ _)
      | (with_reducible exact ih2 _ _ _ _)
      | (with_reducible exact ih3 _ _ _ _)
      | (with_reducible exact impl_Inverse.mono _ _)
      | (with_reducible exact impl_LogOf.mono _ _)
      | (with_reducible exact impl_Power.mono _ _ _)
      | (with_reducible exact impl_Times.mono _ _ _)
      | (with_reducible exact spec_Inverse.mono _ _)
      | (with_reducible exact spec_LogOf.mono _ _)
      | (with_reducible exact spec_Power.mono _ _ _)
      | (with_reducible exact spec_Times.mono _ _ _)
      | (with_reducible exact LeO.refl _)
      | (with_reducible exact LeO.none _)
      | (with_reducible refine LeO.ite ?_ ?_)
      | (with_reducible refine LeO.bind ?_ (fun _ => ?_))
      | exact ih0 _ _ _ _ _
      | exact ih1 _ _ _ _
      | exact ih2 _ _ _ _
      | exact ih3 _ _ _ _
      | exact impl_Inverse.mono _ _
      | exact impl_LogOf.mono _ _
      | exact impl_Power.mono _ _ _
      | exact impl_Times.mono _ _ _
      | exact spec_Inverse.mono _ _
      | exact spec_LogOf.mono _ _
      | exact spec_Power.mono _ _ _
      | exact spec_Times.mono _ _ _
      | exact LeO.none _
      | refine LeO.ite ?_ ?_
      | refine LeO.bind ?_ (fun _ => ?_)
    · intro y0 y1 y2 y3
      unfold laws_FnField.j2
      repeat' first
      | (with_reducible exact ih0 _ _ _ _ _)
      | (with_reducible exact ih1 _ _ _ _)
      | (with_reducible exact ih2 _ _ _ _)
      | (with_reducible exact ih3 _ _ _ _)
      | (with_reducible exact impl_Inverse.mono _ _)
      | (with_reducible exact impl_LogOf.mono _ _)
      | (with_reducible exact impl_Power.mono _ _ _)
      | (with_reducible exact impl_Times.mono _ _ _)
      | (with_reducible exact spec_Inverse.mono _ _)
      | (with_reducible exact spec_LogOf.mono _ _)
      | (with_reducible exact spec_Power.mono _ _ _)
      | (with_reducible exact spec_Times.mono _ _ _)
      | (with_reducible exact LeO.refl _)
      | (with_reducible exact LeO.none _)
      | (with_reducible refine LeO.ite ?_ ?_)
      | (with_reducible refine LeO.bind ?_ (fun _ => ?_))
      | exact ih0 _ _ _ _ _
      | exact ih1 _ _ _ _
      | exact ih2 _ _ _ _
      | exact ih3 _ _ _ _
      | exact impl_Inverse.mono _ _
      | exact impl_LogOf.mono _ _
      | exact impl_Power.mono _ _ _
      | exact impl_Times.mono _ _ _
      | exact spec_Inverse.mono _ _
      | exact spec_LogOf.mono _ _
      | exact spec_Power.mono _ _ _
      | exact spec_Times.mono _ _ _
      | exact LeO.none _
      | refine LeO.ite ?_ ?_
      | refine LeO.bind ?_ (fun _ => ?_)
    · intro y0 y1 y2 y3
      unfold laws_FnField.j3
      repeat' first
      | (with_reducible exact ih0 _ _ _ _ _)
      | (with_reducible exact ih1 _ _ _ _)
      | (with_reducible exact ih2 _ _ _ _)
      | (with_reducible exact ih3 _ _ _ _)
      | (with_reducible exact impl_Inverse.mono _ _)
      | (with_reducible exact impl_LogOf.mono _ _)
      | (with_reducible exact impl_Power.mono _ _ _)
      | (with_reducible exact impl_Times.mono _ _ _)
      | (with_reducible exact spec_Inverse.mono _ _)
      | (with_reducible exact spec_LogOf.mono _ _)
      | (with_reducible exact spec_Power.mono _ _ _)
      | (with_reducible exact spec_Times.mono _ _ _)
      | (with_reducible exact LeO.refl _)
      | (with_reducible exact LeO.none _)
      | (with_reducible refine LeO.ite ?_ ?_)
      | (with_reducible refine LeO.bind ?_ (fun _ => ?_))
      | exact ih0 _ _ _ _ _
      | exact ih1 _ _ _ _
      | exact ih2 _ _ _ _
      | exact ih3 _ _ _ _
      | exact impl_Inverse.mono _ _
      | exact impl_LogOf.mono _ _
      | exact impl_Power.mono _ _ _
      | exact impl_Times.mono _ _ _
      | exact spec_Inverse.mono _ _
      | exact spec_LogOf.mono _ _
      | exact spec_Power.mono _ _ _
      | exact spec_Times.mono _ _ _
      | exact LeO.none _
      | refine LeO.ite ?_ ?_
      | refine LeO.bind ?_ (fun _ => ?_)
theorem laws_FnField.mono : ∀ a0 a1 k, LeO (laws_FnField.f k a0 a1) (laws_FnField.f (k + 1) a0 a1) := by
  intro a0 a1 k
  obtain ⟨ih0, ih1, ih2, ih3⟩ := laws_FnField.mono_l k
  unfold laws_FnField.f
  repeat' first
      | (with_reducible exact ih0 _ _ _ _ _)
      | (with_reducible exact ih1 _ _ _ _)
      | (with_reducible exact ih2 _ _ _ _)
      | (with_reducible exact ih3 _ _ _ _)
      | (with_reducible exact impl_Inverse.mono _ _)
      | (with_reducible exact impl_LogOf.mono _ _)
      | (with_reducible exact impl_Power.mono _ _ _)
      | (with_reducible exact impl_Times.mono _ _ _)
      | (with_reducible exact spec_Inverse.mono _ _)
      | (with_reducible exact spec_LogOf.mono _ _)
      | (with_reducible exact spec_Power.mono _ _ _)
      | (with_reducible exact spec_Times.mono _ _ _)
      | (with_reducible exact LeO.refl _)
      | (with_reducible exact LeO.none _)
      | (with_reducible refine LeO.ite ?_ ?_)
      | (with_reducible refine LeO.bind ?_ (fun _ => ?_))
      | exact ih0 _ _ _ _ _
      | exact ih1 _ _ _ _
      | exact ih2 _ _ _ _
      | exact ih3 _ _ _ _
      | exact impl_Inverse.mono _ _
      | exact impl_LogOf.mono _ _
      | exact impl_Power.mono _ _ _
      | exact impl_Times.mono _ _ _
      | exact spec_Inverse.mono _ _
      | exact spec_LogOf.mono _ _
      | exact spec_Power.mono _ _ _
      | exact spec_Times.mono _ _ _
      | exact LeO.none _
      | refine LeO.ite ?_ ?_
      | refine LeO.bind ?_ (fun _ => ?_)
set_option maxHeartbeats 8000000 in
set_option maxRecDepth 100000 in
theorem laws_FnField.calls (k : Nat) (A0 : Option Addr) (c0 : Nat) (l0 : List Int) (A1 : Option Addr) (c1 : Nat) (l1 : List Int) (r : Bool) (w : World) (hr0 : Kd.C (Kd.int .u8) w A0 l0.length l0) (hc0 : l0.length ≤ c0) (hr1 : Kd.C (Kd.int .u8) w A1 l1.length l1) (hc1 : l1.length ≤ c1) (h : laws_FnField.f k l0 l1 = some r) :
    Calls Try.prog 5 #[.slice A0 l0.length c0, .slice A1 l1.length c1] w fun e w' => e = .returned (.bool r) ∧ Below w.heap.size w w' := by
  have HR0 := Aside0.mk hr0
  have HC0 := Aside0.mk hc0
  clear hr0 hc0
  have HR1 := Aside0.mk hr1
  have HC1 := Aside0.mk hc1
  clear hr1 hc1
  have HB := Aside0.mk (Below.refl w.heap.size w)
  have H : (if (wrap64 ((l0.length : Int) + (l1.length : Int))) > 1048576 then (some true) else ((spec_DrawTimes.f l0).bind fun bt141 => ((spec_DrawPower.f l1).bind fun bt143 => ((impl_Times.f k bt141.1 bt141.2).bind fun t145 => ((spec_Times.f k bt141.1 bt141.2).bind fun t146 => (if t145 = t146 then ((impl_Times.f k bt141.1 bt141.2).bind fun t147 => ((impl_Times.f k bt141.2 bt141.1).bind fun t148 => (if t147 = t148 then ((impl_Times.f k bt141.1 1).bind fun t149 => (laws_FnField.j0 k bt141.1 bt141.2 bt143.1 bt143.2 (t149 != bt141.1))) else (laws_FnField.j0 k bt141.1 bt141.2 bt143.1 bt143.2 true)))) else (laws_FnField.j0 k bt141.1 bt141.2 bt143.1 bt143.2 true))))))) = some r := h
  clear h
  by_cases c3 : (wrap64 ((l0.length : Int) + (l1.length : Int))) > 1048576
  · rw [if_pos c3] at H
    have c3b0 : decide (1048576 < (wrap64 ((l0.length : Int) + (l1.length : Int)))) = true := decide_eq_true c3
    clear c3
    obtain rfl := Option.some.inj H
    go_enter Try.func5, Try.ntmps5
    go_wp2
    go_ret
    exact ⟨by first | rfl | (simp [errW_none, errW_some] <;> rfl) | (simp [*, errW_none, errW_some] <;> rfl), by repeat (first | (with_reducible first | exact HB.out | apply below_alloc | apply pw_below_drewN | apply below_drew1) | exact HB.out)⟩
  · rw [if_neg c3] at H
    have c3b0 : decide (1048576 < (wrap64 ((l0.length : Int) + (l1.length : Int)))) = false := decide_eq_false c3
    clear c3
    replace H := Option.bind_eq_some_iff.mp H
    obtain ⟨⟨t141, t142⟩, A40, H⟩ := H
    replace H : ((spec_DrawPower.f l1).bind fun bt143 => ((impl_Times.f k t141 t142).bind fun t145 => ((spec_Times.f k t141 t142).bind fun t146 => (if t145 = t146 then ((impl_Times.f k t141 t142).bind fun t147 => ((impl_Times.f k t142 t141).bind fun t148 => (if t147 = t148 then ((impl_Times.f k t141 1).bind fun t149 => (laws_FnField.j0 k t141 t142 bt143.1 bt143.2 (t149 != t141))) else (laws_FnField.j0 k t141 t142 bt143.1 bt143.2 true)))) else (laws_FnField.j0 k t141 t142 bt143.1 bt143.2 true))))) = some r := H
    have A4 := Aside0.mk A40
    clear A40
    replace H := Option.bind_eq_some_iff.mp H
    obtain ⟨⟨t143, t144⟩, A50, H⟩ := H
    replace H : ((impl_Times.f k t141 t142).bind fun t145 => ((spec_Times.f k t141 t142).bind fun t146 => (if t145 = t146 then ((impl_Times.f k t141 t142).bind fun t147 => ((impl_Times.f k t142 t141).bind fun t148 => (if t147 = t148 then ((impl_Times.f k t141 1).bind fun t149 => (laws_FnField.j0 k t141 t142 t143 t144 (t149 != t141))) else (laws_FnField.j0 k t141 t142 t143 t144 true)))) else (laws_FnField.j0 k t141 t142 t143 t144 true)))) = some r := H
    have A5 := Aside0.mk A50
    clear A50
    have HC6 := Aside0.mk H
    clear H
    go_enter Try.func5, Try.ntmps5
    go_upto_region 5 with (first | ((with_reducible refine gate_callee (f := 25) rfl ?_); refine goesL_ (some 27) rfl rfl Try.func25 (by kernel_rfl) rfl #[.slice A0 l0.length c0] rfl (by (try simp only [List.map_toArray, List.map_cons, List.map_nil]); first | done | rfl | (simp only [List.length_drop, List.length_take]; rfl)) ?_; (with_reducible refine (spec_DrawTimes.calls _ _ l0 t141 t142 _ ?side1 ?side2 A4.out).mono ?_); (case side1 => repeat (first | exact HR0.out | (with_reducible refine Kd.C_alloc ?_ _) | (with_reducible refine Kd.C_drewN ?_ _) | (with_reducible refine Kd.C_drew ?_))); (case side2 => exact HC0.out); rintro e w7 ⟨rfl, hb⟩; refine ⟨_, rfl, ?_⟩; have n0_ := Aside0.mk (below_step (by repeat (first | (with_reducible first | exact HB.out | apply below_alloc | apply pw_below_drewN | apply below_drew1) | exact HB.out)) hb); clear HB; have HB := n0_; clear n0_; (try clear hb); (try clear hb2); (try clear hk); (try clear hi)) | ((with_reducible refine gate_callee (f := 26) rfl ?_); refine goesL_ (some 32) rfl rfl Try.func26 (by kernel_rfl) rfl #[.slice A1 l1.length c1] rfl (by (try simp only [List.map_toArray, List.map_cons, List.map_nil]); first | done | rfl | (simp only [List.length_drop, List.length_take]; rfl)) ?_; (with_reducible refine (spec_DrawPower.calls _ _ l1 t143 t144 _ ?side1 ?side2 A5.out).mono ?_); (case side1 => repeat (first | exact (Kd.C_below HR1.out HB.out) | (with_reducible refine Kd.C_alloc ?_ _) | (with_reducible refine Kd.C_drewN ?_ _) | (with_reducible refine Kd.C_drew ?_))); (case side2 => exact HC1.out); rintro e w8 ⟨rfl, hb⟩; refine ⟨_, rfl, ?_⟩; have n0_ := Aside0.mk (below_step (by repeat (first | (with_reducible first | exact HB.out | apply below_alloc | apply pw_below_drewN | apply below_drew1) | exact HB.out)) hb); clear HB; have HB := n0_; clear n0_; (try clear hb); (try clear hb2); (try clear hk); (try clear hi)))
    (try simp only [Act.put, List.setIfInBounds_toArray, List.set_cons_zero, List.set_cons_succ])
    go_cut [56] (fun v56 wc => ∃ (kq : Nat) (x56_5 : Bool), v56 = .bool x56_5 ∧ Aside0 (laws_FnField.j0 kq t141 t142 t143 t144 x56_5 = some r) ∧ Aside0 (kq ≤ k) ∧ Aside0 (Below w.heap.size w wc))
    case first =>
      have H := HC6.out
      clear HC6
      replace H := Option.bind_eq_some_iff.mp H
      obtain ⟨t145, A90, H⟩ := H
      replace H : ((spec_Times.f k t141 t142).bind fun t146 => (if t145 = t146 then ((impl_Times.f k t141 t142).bind fun t147 => ((impl_Times.f k t142 t141).bind fun t148 => (if t147 = t148 then ((impl_Times.f k t141 1).bind fun t149 => (laws_FnField.j0 k t141 t142 t143 t144 (t149 != t141))) else (laws_FnField.j0 k t141 t142 t143 t144 true)))) else (laws_FnField.j0 k t141 t142 t143 t144 true))) = some r := H
      have A9 := Aside0.mk A90
      clear A90
      replace H := Option.bind_eq_some_iff.mp H
      obtain ⟨t146, A100, H⟩ := H
      replace H : (if t145 = t146 then ((impl_Times.f k t141 t142).bind fun t147 => ((impl_Times.f k t142 t141).bind fun t148 => (if t147 = t148 then ((impl_Times.f k t141 1).bind fun t149 => (laws_FnField.j0 k t141 t142 t143 t144 (t149 != t141))) else (laws_FnField.j0 k t141 t142 t143 t144 true)))) else (laws_FnField.j0 k t141 t142 t143 t144 true)) = some r := H
      have A10 := Aside0.mk A100
      clear A100
      by_cases c11 : t145 = t146
      · rw [if_pos c11] at H
        have c11b0 : (t145 == t146) = true := beq_iff_eq.mpr c11
        have c11b1 : (t145 != t146) = false := bne_eq_false_iff_eq.mpr c11
        clear c11
        (first | rw [c11b0] | (simp only [i64_w, i32_w]; rw [c11b0]) | skip)
        replace H := Option.bind_eq_some_iff.mp H
        obtain ⟨t147, A120, H⟩ := H
        replace H : ((impl_Times.f k t142 t141).bind fun t148 => (if t147 = t148 then ((impl_Times.f k t141 1).bind fun t149 => (laws_FnField.j0 k t141 t142 t143 t144 (t149 != t141))) else (laws_FnField.j0 k t141 t142 t143 t144 true))) = some r := H
        have A12 := Aside0.mk A120
        clear A120
        replace H := Option.bind_eq_some_iff.mp H
        obtain ⟨t148, A130, H⟩ := H
        replace H : (if t147 = t148 then ((impl_Times.f k t141 1).bind fun t149 => (laws_FnField.j0 k t141 t142 t143 t144 (t149 != t141))) else (laws_FnField.j0 k t141 t142 t143 t144 true)) = some r := H
        have A13 := Aside0.mk A130
        clear A130
        by_cases c14 : t147 = t148
        · rw [if_pos c14] at H
          have c14b0 : (t147 == t148) = true := beq_iff_eq.mpr c14
          have c14b1 : (t147 != t148) = false := bne_eq_false_iff_eq.mpr c14
          clear c14
          replace H := Option.bind_eq_some_iff.mp H
          obtain ⟨t149, A150, H⟩ := H
          replace H : (laws_FnField.j0 k t141 t142 t143 t144 (t149 != t141)) = some r := H
          have A15 := Aside0.mk A150
          clear A150
          have H' := Aside0.mk H
          clear H
          go_wp2_with (first | ((with_reducible refine gate_callee (f := 27) rfl ?_); refine goesL_ (some 37) rfl rfl Try.func27 (by kernel_rfl) rfl #[.int .u8 t141, .int .u8 t142] rfl (by (try simp only [List.map_toArray, List.map_cons, List.map_nil]); first | done | rfl | (simp only [List.length_drop, List.length_take]; rfl)) ?_; (with_reducible refine (impl_Times.calls k t141 t142 t145 _ A9.out).mono ?_); rintro e w' ⟨rfl, ⟨nd, rfl⟩⟩; refine ⟨_, rfl, ?_⟩) | ((with_reducible refine gate_callee (f := 28) rfl ?_); refine goesL_ (some 40) rfl rfl Try.func28 (by kernel_rfl) rfl #[.int .u8 t141, .int .u8 t142] rfl (by (try simp only [List.map_toArray, List.map_cons, List.map_nil]); first | done | rfl | (simp only [List.length_drop, List.length_take]; rfl)) ?_; (with_reducible refine (spec_Times.calls k t141 t142 t146 _ A10.out).mono ?_); rintro e w' ⟨rfl, ⟨nd, rfl⟩⟩; refine ⟨_, rfl, ?_⟩) | (go_at_call 27; (with_reducible refine (impl_Times.calls k t141 t142 t147 _ A12.out).mono ?_); rintro e w' ⟨rfl, ⟨nd, rfl⟩⟩) | (go_at_call 27; (with_reducible refine (impl_Times.calls k t142 t141 t148 _ A13.out).mono ?_); rintro e w' ⟨rfl, ⟨nd, rfl⟩⟩) | (go_at_call 27; (with_reducible refine (impl_Times.calls k t141 1 t149 _ A15.out).mono ?_); rintro e w' ⟨rfl, ⟨nd, rfl⟩⟩))
          go_meet
          case rel => exact ⟨_, ((t149 != t141)), (by first | rfl | (simp; done) | (simp [*]; done)), H', ⟨by first | omega | exact Nat.le_refl _⟩, ⟨by repeat (first | (with_reducible first | exact HB.out | apply below_alloc | apply pw_below_drewN | apply below_drew1) | exact HB.out)⟩⟩
        · rw [if_neg c14] at H
          have c14b0 : (t147 == t148) = false := beq_eq_false_iff_ne.mpr c14
          have c14b1 : (t147 != t148) = true := bne_iff_ne.mpr c14
          have H' := Aside0.mk H
          clear H
          go_wp2_with (first | ((with_reducible refine gate_callee (f := 27) rfl ?_); refine goesL_ (some 37) rfl rfl Try.func27 (by kernel_rfl) rfl #[.int .u8 t141, .int .u8 t142] rfl (by (try simp only [List.map_toArray, List.map_cons, List.map_nil]); first | done | rfl | (simp only [List.length_drop, List.length_take]; rfl)) ?_; (with_reducible refine (impl_Times.calls k t141 t142 t145 _ A9.out).mono ?_); rintro e w' ⟨rfl, ⟨nd, rfl⟩⟩; refine ⟨_, rfl, ?_⟩) | ((with_reducible refine gate_callee (f := 28) rfl ?_); refine goesL_ (some 40) rfl rfl Try.func28 (by kernel_rfl) rfl #[.int .u8 t141, .int .u8 t142] rfl (by (try simp only [List.map_toArray, List.map_cons, List.map_nil]); first | done | rfl | (simp only [List.length_drop, List.length_take]; rfl)) ?_; (with_reducible refine (spec_Times.calls k t141 t142 t146 _ A10.out).mono ?_); rintro e w' ⟨rfl, ⟨nd, rfl⟩⟩; refine ⟨_, rfl, ?_⟩) | (go_at_call 27; (with_reducible refine (impl_Times.calls k t141 t142 t147 _ A12.out).mono ?_); rintro e w' ⟨rfl, ⟨nd, rfl⟩⟩) | (go_at_call 27; (with_reducible refine (impl_Times.calls k t142 t141 t148 _ A13.out).mono ?_); rintro e w' ⟨rfl, ⟨nd, rfl⟩⟩))
          go_meet
          case rel => exact ⟨_, (true), (by first | rfl | (simp; done) | (simp [*]; done)), H', ⟨by first | omega | exact Nat.le_refl _⟩, ⟨by repeat (first | (with_reducible first | exact HB.out | apply below_alloc | apply pw_below_drewN | apply below_drew1) | exact HB.out)⟩⟩
      · rw [if_neg c11] at H
        have c11b0 : (t145 == t146) = false := beq_eq_false_iff_ne.mpr c11
        have c11b1 : (t145 != t146) = true := bne_iff_ne.mpr c11
        (first | rw [c11b0] | (simp only [i64_w, i32_w]; rw [c11b0]) | skip)
        have H' := Aside0.mk H
        clear H
        go_wp2_with (first | ((with_reducible refine gate_callee (f := 27) rfl ?_); refine goesL_ (some 37) rfl rfl Try.func27 (by kernel_rfl) rfl #[.int .u8 t141, .int .u8 t142] rfl (by (try simp only [List.map_toArray, List.map_cons, List.map_nil]); first | done | rfl | (simp only [List.length_drop, List.length_take]; rfl)) ?_; (with_reducible refine (impl_Times.calls k t141 t142 t145 _ A9.out).mono ?_); rintro e w' ⟨rfl, ⟨nd, rfl⟩⟩; refine ⟨_, rfl, ?_⟩) | ((with_reducible refine gate_callee (f := 28) rfl ?_); refine goesL_ (some 40) rfl rfl Try.func28 (by kernel_rfl) rfl #[.int .u8 t141, .int .u8 t142] rfl (by (try simp only [List.map_toArray, List.map_cons, List.map_nil]); first | done | rfl | (simp only [List.length_drop, List.length_take]; rfl)) ?_; (with_reducible refine (spec_Times.calls k t141 t142 t146 _ A10.out).mono ?_); rintro e w' ⟨rfl, ⟨nd, rfl⟩⟩; refine ⟨_, rfl, ?_⟩))
        go_meet
        case rel => exact ⟨_, (true), (by first | rfl | (simp; done) | (simp [*]; done)), H', ⟨by first | omega | exact Nat.le_refl _⟩, ⟨by repeat (first | (with_reducible first | exact HB.out | apply below_alloc | apply pw_below_drewN | apply below_drew1) | exact HB.out)⟩⟩
    case rest =>
      clear HC6
      try clear c1
      try clear c2
      try clear p2
      try clear c3
      try clear c3b0
      try clear c5
      try clear p6
      try clear c11
      try clear c11b0
      try clear c11b1
      try clear c14
      try clear c14b0
      try clear c14b1
      obtain ⟨kq, x56_5, rfl, HA, HJ5, HB⟩ := hcut
      cases kq with
      | zero => exact absurd HA.out (by simp [laws_FnField.j0])
      | succ kj5 =>
        have H := HA.out
        clear HA
        simp only [laws_FnField.j0] at H
        by_cases c16 : x56_5 = true
        · subst c16
          have H1 : (some false) = some r := by rw [if_pos rfl] at H; exact H
          clear H
          have H := H1
          clear H1
          obtain rfl := Option.some.inj H
          go_wp2
          go_ret
          exact ⟨by first | rfl | (simp [errW_none, errW_some] <;> rfl) | (simp [*, errW_none, errW_some] <;> rfl), by repeat (first | (with_reducible first | exact HB.out | apply below_alloc | apply pw_below_drewN | apply below_drew1) | exact HB.out)⟩
        · replace c16 := Bool.eq_false_iff.mpr c16
          subst c16
          have H1 : ((impl_Times.f kj5 t141 t142).bind fun t150 => ((impl_Times.f kj5 t150 t143).bind fun t151 => ((impl_Times.f kj5 t142 t143).bind fun t152 => ((impl_Times.f kj5 t141 t152).bind fun t153 => (if t151 = t153 then ((impl_Times.f kj5 t141 (Go.bits .xor .u8 t142 t143)).bind fun t154 => ((impl_Times.f kj5 t141 t142).bind fun t155 => ((impl_Times.f kj5 t141 t143).bind fun t156 => (laws_FnField.j1 kj5 t141 t143 t144 (t154 != (Go.bits .xor .u8 t155 t156)))))) else (laws_FnField.j1 kj5 t141 t143 t144 true)))))) = some r := by rw [if_neg (show ¬ (false = true) by decide)] at H; exact H
          clear H
          have H := H1
          clear H1
          have HC17 := Aside0.mk H
          clear H
          go_upto_region 7 with (fail)
          go_cut [82] (fun v82 wc => ∃ (kq : Nat) (x82_16 : Bool), v82 = .bool x82_16 ∧ Aside0 (laws_FnField.j1 kq t141 t143 t144 x82_16 = some r) ∧ Aside0 (kq ≤ kj5) ∧ Aside0 (Below w.heap.size w wc))
          case first =>
            have H := HC17.out
            clear HC17
            replace H := Option.bind_eq_some_iff.mp H
            obtain ⟨t150, A180, H⟩ := H
            replace H : ((impl_Times.f kj5 t150 t143).bind fun t151 => ((impl_Times.f kj5 t142 t143).bind fun t152 => ((impl_Times.f kj5 t141 t152).bind fun t153 => (if t151 = t153 then ((impl_Times.f kj5 t141 (Go.bits .xor .u8 t142 t143)).bind fun t154 => ((impl_Times.f kj5 t141 t142).bind fun t155 => ((impl_Times.f kj5 t141 t143).bind fun t156 => (laws_FnField.j1 kj5 t141 t143 t144 (t154 != (Go.bits .xor .u8 t155 t156)))))) else (laws_FnField.j1 kj5 t141 t143 t144 true))))) = some r := H
            have A18 := Aside0.mk A180
            clear A180
            replace H := Option.bind_eq_some_iff.mp H
            obtain ⟨t151, A190, H⟩ := H
            replace H : ((impl_Times.f kj5 t142 t143).bind fun t152 => ((impl_Times.f kj5 t141 t152).bind fun t153 => (if t151 = t153 then ((impl_Times.f kj5 t141 (Go.bits .xor .u8 t142 t143)).bind fun t154 => ((impl_Times.f kj5 t141 t142).bind fun t155 => ((impl_Times.f kj5 t141 t143).bind fun t156 => (laws_FnField.j1 kj5 t141 t143 t144 (t154 != (Go.bits .xor .u8 t155 t156)))))) else (laws_FnField.j1 kj5 t141 t143 t144 true)))) = some r := H
            have A19 := Aside0.mk A190
            clear A190
            replace H := Option.bind_eq_some_iff.mp H
            obtain ⟨t152, A200, H⟩ := H
            replace H : ((impl_Times.f kj5 t141 t152).bind fun t153 => (if t151 = t153 then ((impl_Times.f kj5 t141 (Go.bits .xor .u8 t142 t143)).bind fun t154 => ((impl_Times.f kj5 t141 t142).bind fun t155 => ((impl_Times.f kj5 t141 t143).bind fun t156 => (laws_FnField.j1 kj5 t141 t143 t144 (t154 != (Go.bits .xor .u8 t155 t156)))))) else (laws_FnField.j1 kj5 t141 t143 t144 true))) = some r := H
            have A20 := Aside0.mk A200
            clear A200
            replace H := Option.bind_eq_some_iff.mp H
            obtain ⟨t153, A210, H⟩ := H
            replace H : (if t151 = t153 then ((impl_Times.f kj5 t141 (Go.bits .xor .u8 t142 t143)).bind fun t154 => ((impl_Times.f kj5 t141 t142).bind fun t155 => ((impl_Times.f kj5 t141 t143).bind fun t156 => (laws_FnField.j1 kj5 t141 t143 t144 (t154 != (Go.bits .xor .u8 t155 t156)))))) else (laws_FnField.j1 kj5 t141 t143 t144 true)) = some r := H
            have A21 := Aside0.mk A210
            clear A210
            by_cases c22 : t151 = t153
            · rw [if_pos c22] at H
              have c22b0 : (t151 == t153) = true := beq_iff_eq.mpr c22
              have c22b1 : (t151 != t153) = false := bne_eq_false_iff_eq.mpr c22
              clear c22
              (first | rw [c22b0] | (simp only [i64_w, i32_w]; rw [c22b0]) | skip)
              replace H := Option.bind_eq_some_iff.mp H
              obtain ⟨t154, A230, H⟩ := H
              replace H : ((impl_Times.f kj5 t141 t142).bind fun t155 => ((impl_Times.f kj5 t141 t143).bind fun t156 => (laws_FnField.j1 kj5 t141 t143 t144 (t154 != (Go.bits .xor .u8 t155 t156))))) = some r := H
              have A23 := Aside0.mk A230
              clear A230
              replace H := Option.bind_eq_some_iff.mp H
              obtain ⟨t155, A240, H⟩ := H
              replace H : ((impl_Times.f kj5 t141 t143).bind fun t156 => (laws_FnField.j1 kj5 t141 t143 t144 (t154 != (Go.bits .xor .u8 t155 t156)))) = some r := H
              have A24 := Aside0.mk A240
              clear A240
              replace H := Option.bind_eq_some_iff.mp H
              obtain ⟨t156, A250, H⟩ := H
              replace H : (laws_FnField.j1 kj5 t141 t143 t144 (t154 != (Go.bits .xor .u8 t155 t156))) = some r := H
              have A25 := Aside0.mk A250
              clear A250
              have H' := Aside0.mk H
              clear H
              go_wp2_with (first | ((with_reducible refine gate_callee (f := 27) rfl ?_); refine goesL_ (some 59) rfl rfl Try.func27 (by kernel_rfl) rfl #[.int .u8 t141, .int .u8 t142] rfl (by (try simp only [List.map_toArray, List.map_cons, List.map_nil]); first | done | rfl | (simp only [List.length_drop, List.length_take]; rfl)) ?_; (with_reducible refine (impl_Times.calls kj5 t141 t142 t150 _ A18.out).mono ?_); rintro e w' ⟨rfl, ⟨nd, rfl⟩⟩; refine ⟨_, rfl, ?_⟩) | ((with_reducible refine gate_callee (f := 27) rfl ?_); refine goesL_ (some 61) rfl rfl Try.func27 (by kernel_rfl) rfl #[.int .u8 t150, .int .u8 t143] rfl (by (try simp only [List.map_toArray, List.map_cons, List.map_nil]); first | done | rfl | (simp only [List.length_drop, List.length_take]; rfl)) ?_; (with_reducible refine (impl_Times.calls kj5 t150 t143 t151 _ A19.out).mono ?_); rintro e w' ⟨rfl, ⟨nd, rfl⟩⟩; refine ⟨_, rfl, ?_⟩) | ((with_reducible refine gate_callee (f := 27) rfl ?_); refine goesL_ (some 65) rfl rfl Try.func27 (by kernel_rfl) rfl #[.int .u8 t142, .int .u8 t143] rfl (by (try simp only [List.map_toArray, List.map_cons, List.map_nil]); first | done | rfl | (simp only [List.length_drop, List.length_take]; rfl)) ?_; (with_reducible refine (impl_Times.calls kj5 t142 t143 t152 _ A20.out).mono ?_); rintro e w' ⟨rfl, ⟨nd, rfl⟩⟩; refine ⟨_, rfl, ?_⟩) | ((with_reducible refine gate_callee (f := 27) rfl ?_); refine goesL_ (some 66) rfl rfl Try.func27 (by kernel_rfl) rfl #[.int .u8 t141, .int .u8 t152] rfl (by (try simp only [List.map_toArray, List.map_cons, List.map_nil]); first | done | rfl | (simp only [List.length_drop, List.length_take]; rfl)) ?_; (with_reducible refine (impl_Times.calls kj5 t141 t152 t153 _ A21.out).mono ?_); rintro e w' ⟨rfl, ⟨nd, rfl⟩⟩; refine ⟨_, rfl, ?_⟩) | (go_at_call 27; (with_reducible refine (impl_Times.calls kj5 t141 (Go.bits .xor .u8 t142 t143) t154 _ A23.out).mono ?_); rintro e w' ⟨rfl, ⟨nd, rfl⟩⟩) | (go_at_call 27; (with_reducible refine (impl_Times.calls kj5 t141 t142 t155 _ A24.out).mono ?_); rintro e w' ⟨rfl, ⟨nd, rfl⟩⟩) | (go_at_call 27; (with_reducible refine (impl_Times.calls kj5 t141 t143 t156 _ A25.out).mono ?_); rintro e w' ⟨rfl, ⟨nd, rfl⟩⟩))
              go_meet
              case rel => exact ⟨_, ((t154 != (Go.bits .xor .u8 t155 t156))), (by first | rfl | (simp; done) | (simp [*]; done)), H', ⟨by have := HJ5.out; first | omega | exact Nat.le_refl _⟩, ⟨by repeat (first | (with_reducible first | exact HB.out | apply below_alloc | apply pw_below_drewN | apply below_drew1) | exact HB.out)⟩⟩
            · rw [if_neg c22] at H
              have c22b0 : (t151 == t153) = false := beq_eq_false_iff_ne.mpr c22
              have c22b1 : (t151 != t153) = true := bne_iff_ne.mpr c22
              (first | rw [c22b0] | (simp only [i64_w, i32_w]; rw [c22b0]) | skip)
              have H' := Aside0.mk H
              clear H
              go_wp2_with (first | ((with_reducible refine gate_callee (f := 27) rfl ?_); refine goesL_ (some 59) rfl rfl Try.func27 (by kernel_rfl) rfl #[.int .u8 t141, .int .u8 t142] rfl (by (try simp only [List.map_toArray, List.map_cons, List.map_nil]); first | done | rfl | (simp only [List.length_drop, List.length_take]; rfl)) ?_; (with_reducible refine (impl_Times.calls kj5 t141 t142 t150 _ A18.out).mono ?_); rintro e w' ⟨rfl, ⟨nd, rfl⟩⟩; refine ⟨_, rfl, ?_⟩) | ((with_reducible refine gate_callee (f := 27) rfl ?_); refine goesL_ (some 61) rfl rfl Try.func27 (by kernel_rfl) rfl #[.int .u8 t150, .int .u8 t143] rfl (by (try simp only [List.map_toArray, List.map_cons, List.map_nil]); first | done | rfl | (simp only [List.length_drop, List.length_take]; rfl)) ?_; (with_reducible refine (impl_Times.calls kj5 t150 t143 t151 _ A19.out).mono ?_); rintro e w' ⟨rfl, ⟨nd, rfl⟩⟩; refine ⟨_, rfl, ?_⟩) | ((with_reducible refine gate_callee (f := 27) rfl ?_); refine goesL_ (some 65) rfl rfl Try.func27 (by kernel_rfl) rfl #[.int .u8 t142, .int .u8 t143] rfl (by (try simp only [List.map_toArray, List.map_cons, List.map_nil]); first | done | rfl | (simp only [List.length_drop, List.length_take]; rfl)) ?_; (with_reducible refine (impl_Times.calls kj5 t142 t143 t152 _ A20.out).mono ?_); rintro e w' ⟨rfl, ⟨nd, rfl⟩⟩; refine ⟨_, rfl, ?_⟩) | ((with_reducible refine gate_callee (f := 27) rfl ?_); refine goesL_ (some 66) rfl rfl Try.func27 (by kernel_rfl) rfl #[.int .u8 t141, .int .u8 t152] rfl (by (try simp only [List.map_toArray, List.map_cons, List.map_nil]); first | done | rfl | (simp only [List.length_drop, List.length_take]; rfl)) ?_; (with_reducible refine (impl_Times.calls kj5 t141 t152 t153 _ A21.out).mono ?_); rintro e w' ⟨rfl, ⟨nd, rfl⟩⟩; refine ⟨_, rfl, ?_⟩))
              go_meet
              case rel => exact ⟨_, (true), (by first | rfl | (simp; done) | (simp [*]; done)), H', ⟨by have := HJ5.out; first | omega | exact Nat.le_refl _⟩, ⟨by repeat (first | (with_reducible first | exact HB.out | apply below_alloc | apply pw_below_drewN | apply below_drew1) | exact HB.out)⟩⟩
          case rest =>
            clear HC17
            try clear c1
            try clear c2
            try clear p2
            try clear c3
            try clear c3b0
            try clear c5
            try clear p6
            try clear c11
            try clear c11b0
            try clear c11b1
            try clear c14
            try clear c14b0
            try clear c14b1
            try clear c16
            try clear c22
            try clear c22b0
            try clear c22b1
            try clear c25
            try clear p2
            try clear p6
            obtain ⟨kq, x82_16, rfl, HA, HJ16, HB⟩ := hcut
            cases kq with
            | zero => exact absurd HA.out (by simp [laws_FnField.j1])
            | succ kj16 =>
              have H := HA.out
              clear HA
              simp only [laws_FnField.j1] at H
              by_cases c26 : x82_16 = true
              · subst c26
                have H1 : (some false) = some r := by rw [if_pos rfl] at H; exact H
                clear H
                have H := H1
                clear H1
                obtain rfl := Option.some.inj H
                go_wp2
                go_ret
                exact ⟨by first | rfl | (simp [errW_none, errW_some] <;> rfl) | (simp [*, errW_none, errW_some] <;> rfl), by repeat (first | (with_reducible first | exact HB.out | apply below_alloc | apply pw_below_drewN | apply below_drew1) | exact HB.out)⟩
              · replace c26 := Bool.eq_false_iff.mpr c26
                subst c26
                have H1 : (if t141 = 0 then (laws_FnField.j2 kj16 t141 t143 t144 false) else ((impl_Inverse.f kj16 t141).bind fun t157 => ((impl_Times.f kj16 t141 t157).bind fun t158 => (if t158 = 1 then ((impl_Inverse.f kj16 t141).bind fun t159 => ((spec_Inverse.f kj16 t141).bind fun t160 => (laws_FnField.j2 kj16 t141 t143 t144 (t159 != t160)))) else (laws_FnField.j2 kj16 t141 t143 t144 true))))) = some r := by rw [if_neg (show ¬ (false = true) by decide)] at H; exact H
                clear H
                have H := H1
                clear H1
                have HC27 := Aside0.mk H
                clear H
                go_upto_region 9 with (fail)
                go_cut [98] (fun v98 wc => ∃ (kq : Nat) (x98_26 : Bool), v98 = .bool x98_26 ∧ Aside0 (laws_FnField.j2 kq t141 t143 t144 x98_26 = some r) ∧ Aside0 (kq ≤ kj16) ∧ Aside0 (Below w.heap.size w wc))
                case first =>
                  have H := HC27.out
                  clear HC27
                  by_cases c28 : t141 = 0
                  · rw [if_pos c28] at H
                    have c28b0 : (t141 == 0) = true := beq_iff_eq.mpr c28
                    have c28b1 : (t141 != 0) = false := bne_eq_false_iff_eq.mpr c28
                    clear c28
                    (first | rw [c28b0] | (simp only [i64_w, i32_w]; rw [c28b0]) | skip)
                    have H' := Aside0.mk H
                    clear H
                    go_wp2
                    go_meet
                    case rel => exact ⟨_, (false), (by first | rfl | (simp; done) | (simp [*]; done)), H', ⟨by have := HJ5.out; have := HJ16.out; first | omega | exact Nat.le_refl _⟩, ⟨by repeat (first | (with_reducible first | exact HB.out | apply below_alloc | apply pw_below_drewN | apply below_drew1) | exact HB.out)⟩⟩
                  · rw [if_neg c28] at H
                    have c28b0 : (t141 == 0) = false := beq_eq_false_iff_ne.mpr c28
                    have c28b1 : (t141 != 0) = true := bne_iff_ne.mpr c28
                    (first | rw [c28b0] | (simp only [i64_w, i32_w]; rw [c28b0]) | skip)
                    replace H := Option.bind_eq_some_iff.mp H
                    obtain ⟨t157, A290, H⟩ := H
                    replace H : ((impl_Times.f kj16 t141 t157).bind fun t158 => (if t158 = 1 then ((impl_Inverse.f kj16 t141).bind fun t159 => ((spec_Inverse.f kj16 t141).bind fun t160 => (laws_FnField.j2 kj16 t141 t143 t144 (t159 != t160)))) else (laws_FnField.j2 kj16 t141 t143 t144 true))) = some r := H
                    have A29 := Aside0.mk A290
                    clear A290
                    replace H := Option.bind_eq_some_iff.mp H
                    obtain ⟨t158, A300, H⟩ := H
                    replace H : (if t158 = 1 then ((impl_Inverse.f kj16 t141).bind fun t159 => ((spec_Inverse.f kj16 t141).bind fun t160 => (laws_FnField.j2 kj16 t141 t143 t144 (t159 != t160)))) else (laws_FnField.j2 kj16 t141 t143 t144 true)) = some r := H
                    have A30 := Aside0.mk A300
                    clear A300
                    by_cases c31 : t158 = 1
                    · rw [if_pos c31] at H
                      have c31b0 : (t158 == 1) = true := beq_iff_eq.mpr c31
                      have c31b1 : (t158 != 1) = false := bne_eq_false_iff_eq.mpr c31
                      clear c31
                      replace H := Option.bind_eq_some_iff.mp H
                      obtain ⟨t159, A320, H⟩ := H
                      replace H : ((spec_Inverse.f kj16 t141).bind fun t160 => (laws_FnField.j2 kj16 t141 t143 t144 (t159 != t160))) = some r := H
                      have A32 := Aside0.mk A320
                      clear A320
                      replace H := Option.bind_eq_some_iff.mp H
                      obtain ⟨t160, A330, H⟩ := H
                      replace H : (laws_FnField.j2 kj16 t141 t143 t144 (t159 != t160)) = some r := H
                      have A33 := Aside0.mk A330
                      clear A330
                      have H' := Aside0.mk H
                      clear H
                      go_wp2_with (first | (go_at_call 29; (with_reducible refine (impl_Inverse.calls kj16 t141 t157 _ A29.out).mono ?_); rintro e w' ⟨rfl, ⟨nd, rfl⟩⟩) | (go_at_call 27; (with_reducible refine (impl_Times.calls kj16 t141 t157 t158 _ A30.out).mono ?_); rintro e w' ⟨rfl, ⟨nd, rfl⟩⟩) | (go_at_call 29; (with_reducible refine (impl_Inverse.calls kj16 t141 t159 _ A32.out).mono ?_); rintro e w' ⟨rfl, ⟨nd, rfl⟩⟩) | (go_at_call 30; (with_reducible refine (spec_Inverse.calls kj16 t141 t160 _ A33.out).mono ?_); rintro e w' ⟨rfl, ⟨nd, rfl⟩⟩))
                      have et159_ : t157 = t159 := Option.some.inj (A29.out.symm.trans A32.out)
                      go_meet
                      case rel => exact ⟨_, ((t159 != t160)), (by first | rfl | (simp; done) | (simp [*]; done)), H', ⟨by have := HJ5.out; have := HJ16.out; first | omega | exact Nat.le_refl _⟩, ⟨by repeat (first | (with_reducible first | exact HB.out | apply below_alloc | apply pw_below_drewN | apply below_drew1) | exact HB.out)⟩⟩
                    · rw [if_neg c31] at H
                      have c31b0 : (t158 == 1) = false := beq_eq_false_iff_ne.mpr c31
                      have c31b1 : (t158 != 1) = true := bne_iff_ne.mpr c31
                      have H' := Aside0.mk H
                      clear H
                      go_wp2_with (first | (go_at_call 29; (with_reducible refine (impl_Inverse.calls kj16 t141 t157 _ A29.out).mono ?_); rintro e w' ⟨rfl, ⟨nd, rfl⟩⟩) | (go_at_call 27; (with_reducible refine (impl_Times.calls kj16 t141 t157 t158 _ A30.out).mono ?_); rintro e w' ⟨rfl, ⟨nd, rfl⟩⟩))
                      go_meet
                      case rel => exact ⟨_, (true), (by first | rfl | (simp; done) | (simp [*]; done)), H', ⟨by have := HJ5.out; have := HJ16.out; first | omega | exact Nat.le_refl _⟩, ⟨by repeat (first | (with_reducible first | exact HB.out | apply below_alloc | apply pw_below_drewN | apply below_drew1) | exact HB.out)⟩⟩
                case rest =>
                  clear HC27
                  try clear c1
                  try clear c2
                  try clear p2
                  try clear c3
                  try clear c3b0
                  try clear c5
                  try clear p6
                  try clear c11
                  try clear c11b0
                  try clear c11b1
                  try clear c14
                  try clear c14b0
                  try clear c14b1
                  try clear c16
                  try clear c22
                  try clear c22b0
                  try clear c22b1
                  try clear c25
                  try clear c26
                  try clear c27
                  try clear c28
                  try clear c28b0
                  try clear c28b1
                  try clear c31
                  try clear c31b0
                  try clear c31b1
                  try clear p2
                  try clear p6
                  obtain ⟨kq, x98_26, rfl, HA, HJ26, HB⟩ := hcut
                  cases kq with
                  | zero => exact absurd HA.out (by simp [laws_FnField.j2])
                  | succ kj26 =>
                    have H := HA.out
                    clear HA
                    simp only [laws_FnField.j2] at H
                    by_cases c34 : x98_26 = true
                    · subst c34
                      have H1 : (some false) = some r := by rw [if_pos rfl] at H; exact H
                      clear H
                      have H := H1
                      clear H1
                      obtain rfl := Option.some.inj H
                      go_wp2
                      go_ret
                      exact ⟨by first | rfl | (simp [errW_none, errW_some] <;> rfl) | (simp [*, errW_none, errW_some] <;> rfl), by repeat (first | (with_reducible first | exact HB.out | apply below_alloc | apply pw_below_drewN | apply below_drew1) | exact HB.out)⟩
                    · replace c34 := Bool.eq_false_iff.mpr c34
                      subst c34
                      have H1 : ((impl_Power.f kj26 t143 t144).bind fun bt161 => ((spec_Power.f kj26 t143 t144).bind fun bt163 => ((impl_LogOf.f kj26 t141).bind fun bt165 => ((spec_LogOf.f kj26 t141).bind fun bt167 => (if (bt161.2 != bt163.2) = true then (laws_FnField.j3 kj26 t141 bt165.1 bt165.2 true) else (if bt161.1 = bt163.1 then (if (bt165.2 != bt167.2) = true then (laws_FnField.j3 kj26 t141 bt165.1 bt165.2 true) else (if bt165.1 = bt167.1 then (laws_FnField.j3 kj26 t141 bt165.1 bt165.2 (bt165.2 != (t141 != 0))) else (laws_FnField.j3 kj26 t141 bt165.1 bt165.2 true))) else (laws_FnField.j3 kj26 t141 bt165.1 bt165.2 true))))))) = some r := by rw [if_neg (show ¬ (false = true) by decide)] at H; exact H
                      clear H
                      have H := H1
                      clear H1
                      replace H := Option.bind_eq_some_iff.mp H
                      obtain ⟨⟨t161, t162⟩, A350, H⟩ := H
                      replace H : ((spec_Power.f kj26 t143 t144).bind fun bt163 => ((impl_LogOf.f kj26 t141).bind fun bt165 => ((spec_LogOf.f kj26 t141).bind fun bt167 => (if (t162 != bt163.2) = true then (laws_FnField.j3 kj26 t141 bt165.1 bt165.2 true) else (if t161 = bt163.1 then (if (bt165.2 != bt167.2) = true then (laws_FnField.j3 kj26 t141 bt165.1 bt165.2 true) else (if bt165.1 = bt167.1 then (laws_FnField.j3 kj26 t141 bt165.1 bt165.2 (bt165.2 != (t141 != 0))) else (laws_FnField.j3 kj26 t141 bt165.1 bt165.2 true))) else (laws_FnField.j3 kj26 t141 bt165.1 bt165.2 true)))))) = some r := H
                      have A35 := Aside0.mk A350
                      clear A350
                      replace H := Option.bind_eq_some_iff.mp H
                      obtain ⟨⟨t163, t164⟩, A360, H⟩ := H
                      replace H : ((impl_LogOf.f kj26 t141).bind fun bt165 => ((spec_LogOf.f kj26 t141).bind fun bt167 => (if (t162 != t164) = true then (laws_FnField.j3 kj26 t141 bt165.1 bt165.2 true) else (if t161 = t163 then (if (bt165.2 != bt167.2) = true then (laws_FnField.j3 kj26 t141 bt165.1 bt165.2 true) else (if bt165.1 = bt167.1 then (laws_FnField.j3 kj26 t141 bt165.1 bt165.2 (bt165.2 != (t141 != 0))) else (laws_FnField.j3 kj26 t141 bt165.1 bt165.2 true))) else (laws_FnField.j3 kj26 t141 bt165.1 bt165.2 true))))) = some r := H
                      have A36 := Aside0.mk A360
                      clear A360
                      replace H := Option.bind_eq_some_iff.mp H
                      obtain ⟨⟨t165, t166⟩, A370, H⟩ := H
                      replace H : ((spec_LogOf.f kj26 t141).bind fun bt167 => (if (t162 != t164) = true then (laws_FnField.j3 kj26 t141 t165 t166 true) else (if t161 = t163 then (if (t166 != bt167.2) = true then (laws_FnField.j3 kj26 t141 t165 t166 true) else (if t165 = bt167.1 then (laws_FnField.j3 kj26 t141 t165 t166 (t166 != (t141 != 0))) else (laws_FnField.j3 kj26 t141 t165 t166 true))) else (laws_FnField.j3 kj26 t141 t165 t166 true)))) = some r := H
                      have A37 := Aside0.mk A370
                      clear A370
                      replace H := Option.bind_eq_some_iff.mp H
                      obtain ⟨⟨t167, t168⟩, A380, H⟩ := H
                      replace H : (if (t162 != t164) = true then (laws_FnField.j3 kj26 t141 t165 t166 true) else (if t161 = t163 then (if (t166 != t168) = true then (laws_FnField.j3 kj26 t141 t165 t166 true) else (if t165 = t167 then (laws_FnField.j3 kj26 t141 t165 t166 (t166 != (t141 != 0))) else (laws_FnField.j3 kj26 t141 t165 t166 true))) else (laws_FnField.j3 kj26 t141 t165 t166 true))) = some r := H
                      have A38 := Aside0.mk A380
                      clear A380
                      have HC39 := Aside0.mk H
                      clear H
                      go_upto_region 15 with (first | ((with_reducible refine gate_callee (f := 31) rfl ?_); refine goesL_ (some 102) rfl rfl Try.func31 (by kernel_rfl) rfl #[.int .u8 t143, .int .i64 t144] rfl (by (try simp only [List.map_toArray, List.map_cons, List.map_nil]); first | done | rfl | (simp only [List.length_drop, List.length_take]; rfl)) ?_; (with_reducible refine (impl_Power.calls kj26 t143 t144 t161 t162 _ A35.out).mono ?_); rintro e w' ⟨rfl, ⟨nd, rfl⟩⟩; refine ⟨_, rfl, ?_⟩) | ((with_reducible refine gate_callee (f := 32) rfl ?_); refine goesL_ (some 108) rfl rfl Try.func32 (by kernel_rfl) rfl #[.int .u8 t143, .int .i64 t144] rfl (by (try simp only [List.map_toArray, List.map_cons, List.map_nil]); first | done | rfl | (simp only [List.length_drop, List.length_take]; rfl)) ?_; (with_reducible refine (spec_Power.calls kj26 t143 t144 t163 t164 _ A36.out).mono ?_); rintro e w' ⟨rfl, ⟨nd, rfl⟩⟩; refine ⟨_, rfl, ?_⟩) | ((with_reducible refine gate_callee (f := 33) rfl ?_); refine goesL_ (some 113) rfl rfl Try.func33 (by kernel_rfl) rfl #[.int .u8 t141] rfl (by (try simp only [List.map_toArray, List.map_cons, List.map_nil]); first | done | rfl | (simp only [List.length_drop, List.length_take]; rfl)) ?_; (with_reducible refine (impl_LogOf.calls kj26 t141 t165 t166 _ A37.out).mono ?_); rintro e w' ⟨rfl, ⟨nd, rfl⟩⟩; refine ⟨_, rfl, ?_⟩) | ((with_reducible refine gate_callee (f := 34) rfl ?_); refine goesL_ (some 118) rfl rfl Try.func34 (by kernel_rfl) rfl #[.int .u8 t141] rfl (by (try simp only [List.map_toArray, List.map_cons, List.map_nil]); first | done | rfl | (simp only [List.length_drop, List.length_take]; rfl)) ?_; (with_reducible refine (spec_LogOf.calls kj26 t141 t167 t168 _ A38.out).mono ?_); rintro e w' ⟨rfl, ⟨nd, rfl⟩⟩; refine ⟨_, rfl, ?_⟩))
                      (try simp only [Act.put, List.setIfInBounds_toArray, List.set_cons_zero, List.set_cons_succ])
                      go_cut [144] (fun v144 wc => ∃ (kq : Nat) (x144_38 : Bool), v144 = .bool x144_38 ∧ Aside0 (laws_FnField.j3 kq t141 t165 t166 x144_38 = some r) ∧ Aside0 (kq ≤ kj26) ∧ Aside0 (Below w.heap.size w wc))
                      case first =>
                        have H := HC39.out
                        clear HC39
                        by_cases c40 : (t162 != t164) = true
                        · rw [if_pos c40] at H
                          have c40b0 : (t162 != t164) = true := c40
                          (try (have c40b1 : decide (t162 = t164) = false := by simpa using c40))
                          (try (have c40b2 : (t162 == t164) = false := by simpa using c40))
                          (try (have c40b3 : ¬ (t162 = t164) := by simpa using c40))
                          clear c40
                          (first | rw [c40b0] | (simp only [i64_w, i32_w]; rw [c40b0]) | skip)
                          have H' := Aside0.mk H
                          clear H
                          go_wp2
                          go_meet
                          case rel => exact ⟨_, (true), (by first | rfl | (simp; done) | (simp [*]; done)), H', ⟨by have := HJ5.out; have := HJ16.out; have := HJ26.out; first | omega | exact Nat.le_refl _⟩, ⟨by repeat (first | (with_reducible first | exact HB.out | apply below_alloc | apply pw_below_drewN | apply below_drew1) | exact HB.out)⟩⟩
                        · rw [if_neg c40] at H
                          have c40b0 : (t162 != t164) = false := by simpa using c40
                          (try (have c40b1 : decide (t162 = t164) = true := by simpa using c40))
                          (try (have c40b2 : (t162 == t164) = true := by simpa using c40))
                          clear c40
                          (first | rw [c40b0] | (simp only [i64_w, i32_w]; rw [c40b0]) | skip)
                          by_cases c41 : t161 = t163
                          · rw [if_pos c41] at H
                            have c41b0 : (t161 == t163) = true := beq_iff_eq.mpr c41
                            have c41b1 : (t161 != t163) = false := bne_eq_false_iff_eq.mpr c41
                            clear c41
                            by_cases c42 : (t166 != t168) = true
                            · rw [if_pos c42] at H
                              have c42b0 : (t166 != t168) = true := c42
                              (try (have c42b1 : decide (t166 = t168) = false := by simpa using c42))
                              (try (have c42b2 : (t166 == t168) = false := by simpa using c42))
                              (try (have c42b3 : ¬ (t166 = t168) := by simpa using c42))
                              clear c42
                              have H' := Aside0.mk H
                              clear H
                              go_wp2
                              go_meet
                              case rel => exact ⟨_, (true), (by first | rfl | (simp; done) | (simp [*]; done)), H', ⟨by have := HJ5.out; have := HJ16.out; have := HJ26.out; first | omega | exact Nat.le_refl _⟩, ⟨by repeat (first | (with_reducible first | exact HB.out | apply below_alloc | apply pw_below_drewN | apply below_drew1) | exact HB.out)⟩⟩
                            · rw [if_neg c42] at H
                              have c42b0 : (t166 != t168) = false := by simpa using c42
                              (try (have c42b1 : decide (t166 = t168) = true := by simpa using c42))
                              (try (have c42b2 : (t166 == t168) = true := by simpa using c42))
                              clear c42
                              by_cases c43 : t165 = t167
                              · rw [if_pos c43] at H
                                have c43b0 : (t165 == t167) = true := beq_iff_eq.mpr c43
                                have c43b1 : (t165 != t167) = false := bne_eq_false_iff_eq.mpr c43
                                clear c43
                                have H' := Aside0.mk H
                                clear H
                                go_wp2
                                go_meet
                                case rel => exact ⟨_, ((t166 != (t141 != 0))), (by first | rfl | (simp; done) | (simp [*]; done)), H', ⟨by have := HJ5.out; have := HJ16.out; have := HJ26.out; first | omega | exact Nat.le_refl _⟩, ⟨by repeat (first | (with_reducible first | exact HB.out | apply below_alloc | apply pw_below_drewN | apply below_drew1) | exact HB.out)⟩⟩
                              · rw [if_neg c43] at H
                                have c43b0 : (t165 == t167) = false := beq_eq_false_iff_ne.mpr c43
                                have c43b1 : (t165 != t167) = true := bne_iff_ne.mpr c43
                                have H' := Aside0.mk H
                                clear H
                                go_wp2
                                go_meet
                                case rel => exact ⟨_, (true), (by first | rfl | (simp; done) | (simp [*]; done)), H', ⟨by have := HJ5.out; have := HJ16.out; have := HJ26.out; first | omega | exact Nat.le_refl _⟩, ⟨by repeat (first | (with_reducible first | exact HB.out | apply below_alloc | apply pw_below_drewN | apply below_drew1) | exact HB.out)⟩⟩
                          · rw [if_neg c41] at H
                            have c41b0 : (t161 == t163) = false := beq_eq_false_iff_ne.mpr c41
                            have c41b1 : (t161 != t163) = true := bne_iff_ne.mpr c41
                            have H' := Aside0.mk H
                            clear H
                            go_wp2
                            go_meet
                            case rel => exact ⟨_, (true), (by first | rfl | (simp; done) | (simp [*]; done)), H', ⟨by have := HJ5.out; have := HJ16.out; have := HJ26.out; first | omega | exact Nat.le_refl _⟩, ⟨by repeat (first | (with_reducible first | exact HB.out | apply below_alloc | apply pw_below_drewN | apply below_drew1) | exact HB.out)⟩⟩
                      case rest =>
                        clear HC39
                        try clear c1
                        try clear c2
                        try clear p2
                        try clear c3
                        try clear c3b0
                        try clear c4
                        try clear c5
                        try clear p6
                        try clear c11
                        try clear c11b0
                        try clear c11b1
                        try clear c14
                        try clear c14b0
                        try clear c14b1
                        try clear c16
                        try clear c22
                        try clear c22b0
                        try clear c22b1
                        try clear c25
                        try clear c26
                        try clear c27
                        try clear c28
                        try clear c28b0
                        try clear c28b1
                        try clear c31
                        try clear c31b0
                        try clear c31b1
                        try clear c32
                        try clear c33
                        try clear c34
                        try clear c40
                        try clear c40b0
                        try clear c40b1
                        try clear c40b2
                        try clear c41
                        try clear c41b0
                        try clear c41b1
                        try clear c42
                        try clear c42b0
                        try clear c42b1
                        try clear c42b2
                        try clear c43
                        try clear c43b0
                        try clear c43b1
                        try clear p2
                        try clear p6
                        obtain ⟨kq, x144_38, rfl, HA, HJ38, HB⟩ := hcut
                        cases kq with
                        | zero => exact absurd HA.out (by simp [laws_FnField.j3])
                        | succ kj38 =>
                          have H := HA.out
                          clear HA
                          simp only [laws_FnField.j3] at H
                          by_cases c44 : x144_38 = true
                          · subst c44
                            have H1 : (some false) = some r := by rw [if_pos rfl] at H; exact H
                            clear H
                            have H := H1
                            clear H1
                            obtain rfl := Option.some.inj H
                            go_wp2
                            go_ret
                            exact ⟨by first | rfl | (simp [errW_none, errW_some] <;> rfl) | (simp [*, errW_none, errW_some] <;> rfl), by repeat (first | (with_reducible first | exact HB.out | apply below_alloc | apply pw_below_drewN | apply below_drew1) | exact HB.out)⟩
                          · replace c44 := Bool.eq_false_iff.mpr c44
                            subst c44
                            have H1 : (if t166 = true then ((impl_Power.f kj38 3 t165).bind fun bt169 => (if bt169.2 = true then (if bt169.1 = t141 then (some (decide (t165 < 255))) else (some false)) else (some false))) else (some (t165 == 0))) = some r := by rw [if_neg (show ¬ (false = true) by decide)] at H; exact H
                            clear H
                            have H := H1
                            clear H1
                            by_cases c45 : t166 = true
                            · subst c45
                              have H1 : ((impl_Power.f kj38 3 t165).bind fun bt169 => (if bt169.2 = true then (if bt169.1 = t141 then (some (decide (t165 < 255))) else (some false)) else (some false))) = some r := by rw [if_pos rfl] at H; exact H
                              clear H
                              have H := H1
                              clear H1
                              replace H := Option.bind_eq_some_iff.mp H
                              obtain ⟨⟨t169, t170⟩, A460, H⟩ := H
                              replace H : (if t170 = true then (if t169 = t141 then (some (decide (t165 < 255))) else (some false)) else (some false)) = some r := H
                              have A46 := Aside0.mk A460
                              clear A460
                              by_cases c47 : t170 = true
                              · subst c47
                                have H1 : (if t169 = t141 then (some (decide (t165 < 255))) else (some false)) = some r := by rw [if_pos rfl] at H; exact H
                                clear H
                                have H := H1
                                clear H1
                                by_cases c48 : t169 = t141
                                · rw [if_pos c48] at H
                                  have c48b0 : (t169 == t141) = true := beq_iff_eq.mpr c48
                                  have c48b1 : (t169 != t141) = false := bne_eq_false_iff_eq.mpr c48
                                  clear c48
                                  obtain rfl := Option.some.inj H
                                  go_wp2_with (first | ((with_reducible refine gate_callee (f := 31) rfl ?_); refine goesL_ (some 151) rfl rfl Try.func31 (by kernel_rfl) rfl #[.int .u8 3, .int .i64 t165] rfl (by (try simp only [List.map_toArray, List.map_cons, List.map_nil]); first | done | rfl | (simp only [List.length_drop, List.length_take]; rfl)) ?_; (with_reducible refine (impl_Power.calls kj38 3 t165 t169 true _ A46.out).mono ?_); rintro e w' ⟨rfl, ⟨nd, rfl⟩⟩; refine ⟨_, rfl, ?_⟩))
                                  go_ret
                                  exact ⟨by first | rfl | (simp [errW_none, errW_some] <;> rfl) | (simp [*, errW_none, errW_some] <;> rfl), by repeat (first | (with_reducible first | exact HB.out | apply below_alloc | apply pw_below_drewN | apply below_drew1) | exact HB.out)⟩
                                · rw [if_neg c48] at H
                                  have c48b0 : (t169 == t141) = false := beq_eq_false_iff_ne.mpr c48
                                  have c48b1 : (t169 != t141) = true := bne_iff_ne.mpr c48
                                  obtain rfl := Option.some.inj H
                                  go_wp2_with (first | ((with_reducible refine gate_callee (f := 31) rfl ?_); refine goesL_ (some 151) rfl rfl Try.func31 (by kernel_rfl) rfl #[.int .u8 3, .int .i64 t165] rfl (by (try simp only [List.map_toArray, List.map_cons, List.map_nil]); first | done | rfl | (simp only [List.length_drop, List.length_take]; rfl)) ?_; (with_reducible refine (impl_Power.calls kj38 3 t165 t169 true _ A46.out).mono ?_); rintro e w' ⟨rfl, ⟨nd, rfl⟩⟩; refine ⟨_, rfl, ?_⟩))
                                  go_ret
                                  exact ⟨by first | rfl | (simp [errW_none, errW_some] <;> rfl) | (simp [*, errW_none, errW_some] <;> rfl), by repeat (first | (with_reducible first | exact HB.out | apply below_alloc | apply pw_below_drewN | apply below_drew1) | exact HB.out)⟩
                              · replace c47 := Bool.eq_false_iff.mpr c47
                                subst c47
                                have H1 : (some false) = some r := by rw [if_neg (show ¬ (false = true) by decide)] at H; exact H
                                clear H
                                have H := H1
                                clear H1
                                obtain rfl := Option.some.inj H
                                go_wp2_with (first | ((with_reducible refine gate_callee (f := 31) rfl ?_); refine goesL_ (some 151) rfl rfl Try.func31 (by kernel_rfl) rfl #[.int .u8 3, .int .i64 t165] rfl (by (try simp only [List.map_toArray, List.map_cons, List.map_nil]); first | done | rfl | (simp only [List.length_drop, List.length_take]; rfl)) ?_; (with_reducible refine (impl_Power.calls kj38 3 t165 t169 false _ A46.out).mono ?_); rintro e w' ⟨rfl, ⟨nd, rfl⟩⟩; refine ⟨_, rfl, ?_⟩))
                                go_ret
                                exact ⟨by first | rfl | (simp [errW_none, errW_some] <;> rfl) | (simp [*, errW_none, errW_some] <;> rfl), by repeat (first | (with_reducible first | exact HB.out | apply below_alloc | apply pw_below_drewN | apply below_drew1) | exact HB.out)⟩
                            · replace c45 := Bool.eq_false_iff.mpr c45
                              subst c45
                              have H1 : (some (t165 == 0)) = some r := by rw [if_neg (show ¬ (false = true) by decide)] at H; exact H
                              clear H
                              have H := H1
                              clear H1
                              obtain rfl := Option.some.inj H
                              go_wp2
                              go_ret
                              exact ⟨by first | rfl | (simp [errW_none, errW_some] <;> rfl) | (simp [*, errW_none, errW_some] <;> rfl), by repeat (first | (with_reducible first | exact HB.out | apply below_alloc | apply pw_below_drewN | apply below_drew1) | exact HB.out)⟩

/-- THE ONE PURE STATEMENT of laws_FnField: yours. -/
def laws_FnField.Pure : Prop := ∀ (l0 : List Int) (l1 : List Int), l0.length ≤ maxLen → l0.length * 1 ≤ 140737488351232 → (∀ x ∈ l0, (Lit.int .u8 x).wf = true) → l1.length ≤ maxLen → l1.length * 1 ≤ 140737488351232 → (∀ x ∈ l1, (Lit.int .u8 x).wf = true) → ∃ k, laws_FnField.f k l0 l1 = some true
theorem laws_FnField.walk (P : laws_FnField.Pure) (a0 : Option Addr) (len0 cap0 : Nat) (z0 : List Int) (a1 : Option Addr) (len1 cap1 : Nat) (z1 : List Int) (w : World) (w0 : (a0 = none ∧ len0 = 0 ∧ cap0 = 0 ∧ z0 = []) ∨ ∃ x, a0 = some x ∧ len0 ≤ cap0 ∧ cap0 ≤ maxLen ∧ z0.length = cap0 ∧ (∀ i, i < z0.length → w.cell? (x.add i) = some (.int .u8 (z0.getD i 0))) ∧ ∀ n ∈ z0, (Lit.int .u8 n).wf = true) (y0 : len0 * 1 ≤ 140737488351232) (w1 : (a1 = none ∧ len1 = 0 ∧ cap1 = 0 ∧ z1 = []) ∨ ∃ x, a1 = some x ∧ len1 ≤ cap1 ∧ cap1 ≤ maxLen ∧ z1.length = cap1 ∧ (∀ i, i < z1.length → w.cell? (x.add i) = some (.int .u8 (z1.getD i 0))) ∧ ∀ n ∈ z1, (Lit.int .u8 n).wf = true) (y1 : len1 * 1 ≤ 140737488351232) :
    Calls Try.prog 5 #[.slice a0 len0 cap0, .slice a1 len1 cap1] w fun e w' => e = .returned (.bool true) ∧ Below w.heap.size w w' := by
  obtain ⟨l0, rfl, hr0, hm0, hw0, hc0⟩ := ReadsInt.ofRowC w0
  obtain ⟨l1, rfl, hr1, hm1, hw1, hc1⟩ := ReadsInt.ofRowC w1
  obtain ⟨k, h⟩ := P l0 l1 hm0 y0 hw0 hm1 y1 hw1
  refine (laws_FnField.calls k _ _ l0 _ _ l1 true w (Kd.C_of_reads (d := (0 : Int)) (h1 := fun _ => rfl) hr0) hc0 (Kd.C_of_reads (d := (0 : Int)) (h1 := fun _ => rfl) hr1) hc1 h).mono ?_
  rintro e w' ⟨rfl, hd⟩
  exact ⟨rfl, hd⟩

end Go.Proofs.Ytelkciakdhiicaa.PFnField
